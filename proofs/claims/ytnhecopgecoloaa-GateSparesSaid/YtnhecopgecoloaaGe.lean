/- A gate in the laws: what they all ask. No conditions. -/
import Derived.Test.YtnhecopgecoloaaGd
namespace Go.Proofs.Ytnhecopgecoloaa
open Hp Sx
section
variable {dr : Bool} {P : Program} {ops : Array Oper} {W : List Nat} {Q : Fr → World → Prop} {k : Nat} {rest : List Oper} {σ : Fr} {C : World → Prop} {d : Nat} {ty : TypeId} {pos : String} {after : Array Edge} {guard : Option (Nat × Bool)}
theorem x_eqlN {t t' e : TypeId} {x y : Operand} (hu : P.underlying t = some (.pointer e)) (hw : wantS ops σ ⟨some d, .binOp .eql t x y t', ty, pos, after, guard⟩ = true) (hx : ev σ x = .pointer none) (hy : ev σ y = .pointer none)
    (h : xw dr P ops W Q (k + 1) rest (upd σ d (.bool true)) C) : xw dr P ops W Q k (⟨some d, .binOp .eql t x y t', ty, pos, after, guard⟩ :: rest) σ C :=
  x_p hw rfl (fun w => by
    have e3 : eqGuard .eql t x y (.pointer none) (.pointer none) = pure () := rfl
    have hp : P.underlying t = some (.pointer (P.pointee t)) := by simp [Program.pointee, hu]
    simp only [execOp, hx, hy, e3, Sem.run_bind, Sem.run_pure, Result.andThen_ok, run_eql_pointer_nil w t none hp]
    rfl) h
end
theorem put_last {α : Type} {lt : α → α → Bool} {x : α} : ∀ {l : List α}, (∀ a ∈ l, lt x a = false) → put lt l x = l ++ [x]
  | [], _ => rfl
  | a :: l, h => by
    have ih := put_last (lt := lt) (x := x) (l := l) fun b hb => h b (List.mem_cons_of_mem a hb)
    simp only [put, h a (by simp), Bool.false_eq_true, if_false, ih, List.cons_append]
theorem elt_F {x a : Ev} (h : a.ts < x.ts) : elt x a = false := by
  have h1 : ¬ x.ts < a.ts := by omega
  have h2 : ¬ x.ts = a.ts := by omega
  simp [elt, nlt, Ev.nm, h1, h2]
theorem nm_no {S : List Ev} {e : Ev} (h : ∀ a ∈ S, a.ts ≠ e.ts) : e.nm ∉ S.map Ev.nm := fun hm => by
  obtain ⟨a, ha, he⟩ := List.mem_map.1 hm
  exact h a ha (congrArg Nm.ts he)
theorem pcode0 {g : GS} {e : Ev} (h1 : g.shut = false) (h2 : minT ≤ e.ts ∧ e.ts ≤ maxT) (h3 : g.mark < e.ts) (h4 : e.nm ∉ g.S.map Ev.nm) (h5 : (g.S.length : Int) ≠ g.cap) : g.pcode e = 0 := by
  unfold GS.pcode
  rw [h1, if_neg (by decide), if_neg (by simp [rng_iff.2 h2]), if_neg (by omega), if_neg h4, if_neg h5]
theorem pcode103 {g : GS} {e : Ev} (h1 : g.shut = false) (h2 : minT ≤ e.ts ∧ e.ts ≤ maxT) (h3 : g.mark < e.ts) (h4 : e.nm ∈ g.S.map Ev.nm) : g.pcode e = 103 := by
  unfold GS.pcode
  rw [h1, if_neg (by decide), if_neg (by simp [rng_iff.2 h2]), if_neg (by omega), if_pos h4]
theorem pcode104 {g : GS} {e : Ev} (h1 : g.shut = false) (h2 : minT ≤ e.ts ∧ e.ts ≤ maxT) (h3 : g.mark < e.ts) (h4 : e.nm ∉ g.S.map Ev.nm) (h5 : (g.S.length : Int) = g.cap) : g.pcode e = 104 := by
  unfold GS.pcode
  rw [h1, if_neg (by decide), if_neg (by simp [rng_iff.2 h2]), if_neg (by omega), if_neg h4, if_pos h5]
theorem push_in {g : GS} {e : Ev} (h : g.pcode e = 0) (hl : ∀ a ∈ g.S, a.ts < e.ts) : g.push e = { g with S := g.S ++ [e] } := by
  unfold GS.push
  rw [if_pos h, put_last fun a ha => elt_F (hl a ha)]
theorem push_no {g : GS} {e : Ev} (h : g.pcode e ≠ 0) : g.push e = g := by
  unfold GS.push
  rw [if_neg h]
end Go.Proofs.Ytnhecopgecoloaa
