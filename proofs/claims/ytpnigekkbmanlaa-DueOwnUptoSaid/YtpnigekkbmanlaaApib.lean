/- Events and names: told apart by == and !=. No conditions. -/
import Derived.Test.YtpnigekkbmanlaaApi
import Derived.DeepKeys
namespace Go.Proofs.Ytpnigekkbmanlaa
open Sx

/-- eqFields by the fields' types and places -/
def eqF (dd : Nat) (xs ys : Array Value) : List (TypeId × Nat) → Sem Bool
  | [] => pure true
  | f :: fs => do
    let a ← part f.1 xs f.2
    let b ← part f.1 ys f.2
    let r ← Op.equalIn dd f.1 a b
    if (!r) = true then pure false else eqF dd xs ys fs
theorem eqF_of {dd : Nat} {xs ys : Array Value} : ∀ (fs : List Field) (l : List (TypeId × Nat)), (fs.map fun f => (f.name != "_", f.type, f.offset)) = (l.map fun x => (true, x.1, x.2)) → Op.eqFields dd xs ys fs = eqF dd xs ys l
  | [], [], _ => rfl
  | [], _ :: _, h => by simp at h
  | _ :: _, [], h => by simp at h
  | f :: fs, x :: l, h => by
    simp only [List.map_cons, List.cons.injEq, Prod.mk.injEq] at h
    obtain ⟨⟨h1, h2, h3⟩, h4⟩ := h
    have hn' : f.name ≠ "_" := by simpa using h1
    simp only [Op.eqFields, eqF, hn', ne_eq, not_false_eq_true, if_true, h2, h3, eqF_of fs l h4]
theorem eqF_nil {P : Program} {w : World} {dd : Nat} {xs ys : Array Value} : (eqF dd xs ys []).run P w = .ok true w := rfl
theorem eqF_cons {P : Program} {w : World} {dd : Nat} {xs ys : Array Value} {f : TypeId × Nat} {fs : List (TypeId × Nat)} {a b : Value} {r r' : Bool} (ha : (part f.1 xs f.2).run P w = .ok a w) (hb : (part f.1 ys f.2).run P w = .ok b w)
    (he : (Op.equalIn dd f.1 a b).run P w = .ok r w) (h : (eqF dd xs ys fs).run P w = .ok r' w) : (eqF dd xs ys (f :: fs)).run P w = .ok (r && r') w := by
  simp only [eqF, Sem.run_bind, ha, hb, he, Result.andThen_ok]
  cases r
  · simp
  · simpa using h
theorem eqI_nil {P : Program} {w : World} {dd n : Nat} {e : TypeId} {xs ys : Array Value} : (Op.eqItems dd e n xs ys []).run P w = .ok true w := rfl
theorem eqI_cons {P : Program} {w : World} {dd n i : Nat} {is : List Nat} {e : TypeId} {xs ys : Array Value} {a b : Value} {r r' : Bool} (ha : (part e xs (i * n)).run P w = .ok a w) (hb : (part e ys (i * n)).run P w = .ok b w)
    (he : (Op.equalIn dd e a b).run P w = .ok r w) (h : (Op.eqItems dd e n xs ys is).run P w = .ok r' w) : (Op.eqItems dd e n xs ys (i :: is)).run P w = .ok (r && r') w := by
  simp only [Op.eqItems, Sem.run_bind, ha, hb, he, Result.andThen_ok]
  cases r
  · simp
  · simpa using h

/-- The frame forgotten but for what is listed. -/
theorem swp_fit {P : Program} {n : Nat} {c : Code} {Q : Exit → Fr → World → Prop} {σ : Fr} {w : World} (l : List (Nat × Value)) (h : fits σ l) (k : ∀ ρ, swp P n c Q (upds ρ l) w) : swp P n c Q σ w := by
  rw [fit h]
  exact k _

/-- == at a type whose things are read as cells -/
structure EqTy (P : Program) (t : TypeId) {α : Type} [DecidableEq α] (enc : α → List Value) : Prop where
  eq : ∀ (x y : α) (w : World), (Op.equalIn 10000 t (.agg (enc x).toArray) (.agg (enc y).toArray)).run P w = .ok (decide (x = y)) w
  guard : P.eqGuardType P.depth t = false

section
variable {dr : Bool} {P : Program} {ops : Array Oper} {W : List Nat} {Q : Fr → World → Prop} {k : Nat} {rest : List Oper} {σ : Fr} {C : World → Prop} {d : Tmp} {ty : TypeId} {pos : String} {after : Array Edge} {guard : Option (Nat × Bool)}
theorem x_eqlA {α : Type} [DecidableEq α] {enc : α → List Value} {t t' : TypeId} {a b : α} {x y : Operand} (hE : EqTy P t enc) (hw : wantS ops σ ⟨some d, .binOp .eql t x y t', ty, pos, after, guard⟩ = true) (hx : ev σ x = .agg (enc a).toArray) (hy : ev σ y = .agg (enc b).toArray)
    (h : xw dr P ops W Q (k + 1) rest (upd σ d (.bool (decide (a = b)))) C) : xw dr P ops W Q k (⟨some d, .binOp .eql t x y t', ty, pos, after, guard⟩ :: rest) σ C :=
  x_p hw rfl (fun w => by
    simp only [execOp, hx, hy, Sem.run_bind, run_eqGuard_agg w _ t x y _ _ hE.guard, Result.andThen_ok, run_eql_struct, hE.eq]
    rfl) h
theorem x_neqA {α : Type} [DecidableEq α] {enc : α → List Value} {t t' : TypeId} {a b : α} {x y : Operand} (hE : EqTy P t enc) (hw : wantS ops σ ⟨some d, .binOp .neq t x y t', ty, pos, after, guard⟩ = true) (hx : ev σ x = .agg (enc a).toArray) (hy : ev σ y = .agg (enc b).toArray)
    (h : xw dr P ops W Q (k + 1) rest (upd σ d (.bool (!decide (a = b)))) C) : xw dr P ops W Q k (⟨some d, .binOp .neq t x y t', ty, pos, after, guard⟩ :: rest) σ C :=
  x_p hw rfl (fun w => by
    simp only [execOp, hx, hy, Sem.run_bind, run_eqGuard_agg w _ t x y _ _ hE.guard, Result.andThen_ok, run_neq_struct, hE.eq]
    rfl) h
end

instance : DecidableEq Nm := fun a b => decidable_of_iff (a.ts = b.ts ∧ a.id = b.id) (by cases a; cases b; simp)
instance : DecidableEq Ev := fun a b => decidable_of_iff (a.ts = b.ts ∧ a.id = b.id ∧ a.ty = b.ty ∧ a.a0 = b.a0 ∧ a.a1 = b.a1 ∧ a.a2 = b.a2 ∧ a.a3 = b.a3 ∧ a.a4 = b.a4 ∧ a.a5 = b.a5 ∧ a.a6 = b.a6 ∧ a.a7 = b.a7) (by cases a; cases b; simp)

set_option maxRecDepth 100000 in
theorem eq_nm : EqTy Try.prog 68 Nm.cells := ⟨fun x y w => by
  rw [run_equalIn_struct w 9999 68 _ _ (by kernel_rfl) (by kernel_rfl), eqF_of _ [(2, 0), (66, 1)] (by kernel_rfl)]
  rw [eqF_cons (a := .int .i64 x.ts) (b := .int .i64 y.ts) (by kernel_rfl) (by kernel_rfl) (run_equalIn_int w 9998 2 .i64 .i64 _ _ (by kernel_rfl)) <|
    eqF_cons (a := .int .u64 x.id) (b := .int .u64 y.id) (by kernel_rfl) (by kernel_rfl) (run_equalIn_int w 9998 66 .u64 .u64 _ _ (by kernel_rfl)) eqF_nil]
  congr 1
  rw [Bool.eq_iff_iff]
  cases x; cases y
  simp, by kernel_rfl⟩
set_option maxRecDepth 100000 in
theorem eq_ev : EqTy Try.prog 89 Ev.cells := ⟨fun x y w => by
  rw [run_equalIn_struct w 9999 89 _ _ (by kernel_rfl) (by kernel_rfl), eqF_of _ [(2, 0), (66, 1), (3, 2), (87, 3)] (by kernel_rfl)]
  have ha : (Op.equalIn 9999 87 (.agg #[.int .i64 x.a0, .int .i64 x.a1, .int .i64 x.a2, .int .i64 x.a3, .int .i64 x.a4, .int .i64 x.a5, .int .i64 x.a6, .int .i64 x.a7]) (.agg #[.int .i64 y.a0, .int .i64 y.a1, .int .i64 y.a2, .int .i64 y.a3, .int .i64 y.a4, .int .i64 y.a5, .int .i64 y.a6, .int .i64 y.a7])).run Try.prog w = .ok (decide (x.a0 = y.a0 ∧ x.a1 = y.a1 ∧ x.a2 = y.a2 ∧ x.a3 = y.a3 ∧ x.a4 = y.a4 ∧ x.a5 = y.a5 ∧ x.a6 = y.a6 ∧ x.a7 = y.a7)) w := by
    have hi : ∃ i, Try.prog.info? 2 = some i := by
      cases h : Try.prog.info? 2 with
      | some i => exact ⟨i, rfl⟩
      | none => exact absurd (show (Try.prog.info? 2).isSome = true by kernel_rfl) (by rw [h]; simp)
    obtain ⟨i, hi⟩ := hi
    rw [run_equalIn_array w 9998 (t := 87) (e := 2) (n := 8) _ _ (by kernel_rfl) hi, show List.range 8 = [0, 1, 2, 3, 4, 5, 6, 7] by rfl, show Try.prog.cellsOf 2 = 1 by kernel_rfl]
    rw [eqI_cons (a := .int .i64 x.a0) (b := .int .i64 y.a0) (by kernel_rfl) (by kernel_rfl) (run_equalIn_int w 9997 2 .i64 .i64 _ _ (by kernel_rfl)) <|
      eqI_cons (a := .int .i64 x.a1) (b := .int .i64 y.a1) (by kernel_rfl) (by kernel_rfl) (run_equalIn_int w 9997 2 .i64 .i64 _ _ (by kernel_rfl)) <|
      eqI_cons (a := .int .i64 x.a2) (b := .int .i64 y.a2) (by kernel_rfl) (by kernel_rfl) (run_equalIn_int w 9997 2 .i64 .i64 _ _ (by kernel_rfl)) <|
      eqI_cons (a := .int .i64 x.a3) (b := .int .i64 y.a3) (by kernel_rfl) (by kernel_rfl) (run_equalIn_int w 9997 2 .i64 .i64 _ _ (by kernel_rfl)) <|
      eqI_cons (a := .int .i64 x.a4) (b := .int .i64 y.a4) (by kernel_rfl) (by kernel_rfl) (run_equalIn_int w 9997 2 .i64 .i64 _ _ (by kernel_rfl)) <|
      eqI_cons (a := .int .i64 x.a5) (b := .int .i64 y.a5) (by kernel_rfl) (by kernel_rfl) (run_equalIn_int w 9997 2 .i64 .i64 _ _ (by kernel_rfl)) <|
      eqI_cons (a := .int .i64 x.a6) (b := .int .i64 y.a6) (by kernel_rfl) (by kernel_rfl) (run_equalIn_int w 9997 2 .i64 .i64 _ _ (by kernel_rfl)) <|
      eqI_cons (a := .int .i64 x.a7) (b := .int .i64 y.a7) (by kernel_rfl) (by kernel_rfl) (run_equalIn_int w 9997 2 .i64 .i64 _ _ (by kernel_rfl)) eqI_nil]
    congr 1
    rw [Bool.eq_iff_iff]
    simp
  rw [eqF_cons (a := .int .i64 x.ts) (b := .int .i64 y.ts) (by kernel_rfl) (by kernel_rfl) (run_equalIn_int w 9998 2 .i64 .i64 _ _ (by kernel_rfl)) <|
    eqF_cons (a := .int .u64 x.id) (b := .int .u64 y.id) (by kernel_rfl) (by kernel_rfl) (run_equalIn_int w 9998 66 .u64 .u64 _ _ (by kernel_rfl)) <|
    eqF_cons (a := .int .i64 x.ty) (b := .int .i64 y.ty) (by kernel_rfl) (by kernel_rfl) (run_equalIn_int w 9998 3 .i64 .i64 _ _ (by kernel_rfl)) <|
    eqF_cons (by kernel_rfl) (by kernel_rfl) ha eqF_nil]
  congr 1
  rw [Bool.eq_iff_iff]
  cases x; cases y
  simp, by kernel_rfl⟩
end Go.Proofs.Ytpnigekkbmanlaa
