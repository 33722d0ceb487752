/- What TopLine reads, in plain terms; a few laws of the walker. No conditions. -/
import Derived.Test.YtngmlmfkegoghaaDoorTab
import Derived.DeepKeys
import Derived.Laws.OwnMore
import Derived.Laws.Pointers
import Derived.Laws.Strings
import Derived.Laws.Concat
import Derived.Laws.Cover1
import Derived.Laws.Small
namespace Go.Proofs.YtngmlmfkegoghaaDoor
open Sx
theorem nthE {α : Type} {L : List α} {i : Nat} (h : i < L.length) : ∃ x, L[i]? = some x := ⟨_, List.getElem?_eq_getElem h⟩
theorem take_succ' {α : Type} {l : List α} {i : Nat} {x : α} (h : l[i]? = some x) : l.take (i + 1) = l.take i ++ [x] := by rw [List.take_add_one, h]; rfl
theorem take_fl {α : Type} {enc : α → List Value} {l : List α} {i : Nat} {x : α} (h : l[i]? = some x) : fl enc (l.take i) ++ enc x = fl enc (l.take (i + 1)) := by rw [take_succ' h, fl_append, fl_one]
/-- A cut after one piece of code that goes on. -/
theorem swp_cutQ {P : Program} {n : Nat} {x : Code} {Q : Exit → Fr → World → Prop} {σ : Fr} {w : World} (Φ : Fr → World → Prop) (h1 : swp P n x (fun e σ w => e = .normal ∧ Φ σ w) σ w) (h2 : ∀ σ w, Φ σ w → Q .normal σ w) : swp P n x Q σ w :=
  swp_mono h1 fun e σ w h => by obtain ⟨rfl, h⟩ := h; exact h2 _ _ h

theorem e_pass {Q : Exit → Fr → World → Prop} {σ : Fr} {w : World} {id i : Nat} (hne : i ≠ id) (h : Q (.exit i) σ w) : sblock id Q (.exit i) σ w := by simpa [sblock, hne] using h
/-- eqFields by the fields' types and places -/
def eqF (dd : Nat) (xs ys : Array Value) : List (TypeId × Nat) → Sem Bool
  | [] => pure true
  | f :: fs => do
    let a ← part f.1 xs f.2
    let b ← part f.1 ys f.2
    let r ← Op.equalIn dd f.1 a b
    if (!r) = true then pure false else eqF dd xs ys fs
theorem eqF_of {dd : Nat} {xs ys : Array Value} : ∀ (fs : List Field) (l : List (TypeId × Nat)), (fs.map fun f => (f.name != "_", f.type, f.offset)) = (l.map fun x => (true, x.1, x.2)) → Op.eqFields dd xs ys fs = eqF dd xs ys l
  | [], [], _ => rfl
  | [], _ :: _, h => by simp at h
  | _ :: _, [], h => by simp at h
  | f :: fs, x :: l, h => by
    simp only [List.map_cons, List.cons.injEq, Prod.mk.injEq] at h
    obtain ⟨⟨h1, h2, h3⟩, h4⟩ := h
    have hn' : f.name ≠ "_" := by simpa using h1
    simp only [Op.eqFields, eqF, hn', ne_eq, not_false_eq_true, if_true, h2, h3, eqF_of fs l h4]
theorem eqF_nil {P : Program} {w : World} {dd : Nat} {xs ys : Array Value} : (eqF dd xs ys []).run P w = .ok true w := rfl
theorem eqF_cons {P : Program} {w : World} {dd : Nat} {xs ys : Array Value} {f : TypeId × Nat} {fs : List (TypeId × Nat)} {a b : Value} {r r' : Bool} (ha : (part f.1 xs f.2).run P w = .ok a w) (hb : (part f.1 ys f.2).run P w = .ok b w)
    (he : (Op.equalIn dd f.1 a b).run P w = .ok r w) (h : (eqF dd xs ys fs).run P w = .ok r' w) : (eqF dd xs ys (f :: fs)).run P w = .ok (r && r') w := by
  simp only [eqF, Sem.run_bind, ha, hb, he, Result.andThen_ok]
  cases r
  · simp
  · simpa using h
theorem eqI_nil {P : Program} {w : World} {dd n : Nat} {e : TypeId} {xs ys : Array Value} : (Op.eqItems dd e n xs ys []).run P w = .ok true w := rfl
theorem eqI_cons {P : Program} {w : World} {dd n i : Nat} {is : List Nat} {e : TypeId} {xs ys : Array Value} {a b : Value} {r r' : Bool} (ha : (part e xs (i * n)).run P w = .ok a w) (hb : (part e ys (i * n)).run P w = .ok b w)
    (he : (Op.equalIn dd e a b).run P w = .ok r w) (h : (Op.eqItems dd e n xs ys is).run P w = .ok r' w) : (Op.eqItems dd e n xs ys (i :: is)).run P w = .ok (r && r') w := by
  simp only [Op.eqItems, Sem.run_bind, ha, hb, he, Result.andThen_ok]
  cases r
  · simp
  · simpa using h

/-- The frame forgotten but for what is listed. -/
theorem swp_fit {P : Program} {n : Nat} {c : Code} {Q : Exit → Fr → World → Prop} {σ : Fr} {w : World} (l : List (Nat × Value)) (h : fits σ l) (k : ∀ ρ, swp P n c Q (upds ρ l) w) : swp P n c Q σ w := by
  rw [fit h]
  exact k _

/-- == at a type whose things are read as cells -/
structure EqTy (P : Program) (t : TypeId) {α : Type} [DecidableEq α] (enc : α → List Value) : Prop where
  eq : ∀ (x y : α) (w : World), (Op.equalIn 10000 t (.agg (enc x).toArray) (.agg (enc y).toArray)).run P w = .ok (decide (x = y)) w
  guard : P.eqGuardType P.depth t = false

section
variable {dr : Bool} {P : Program} {ops : Array Oper} {W : List Nat} {Q : Fr → World → Prop} {k : Nat} {rest : List Oper} {σ : Fr} {C : World → Prop} {d : Tmp} {ty : TypeId} {pos : String} {after : Array Edge} {guard : Option (Nat × Bool)}
theorem x_eqlA {α : Type} [DecidableEq α] {enc : α → List Value} {t t' : TypeId} {a b : α} {x y : Operand} (hE : EqTy P t enc) (hw : wantS ops σ ⟨some d, .binOp .eql t x y t', ty, pos, after, guard⟩ = true) (hx : ev σ x = .agg (enc a).toArray) (hy : ev σ y = .agg (enc b).toArray)
    (h : xw dr P ops W Q (k + 1) rest (upd σ d (.bool (decide (a = b)))) C) : xw dr P ops W Q k (⟨some d, .binOp .eql t x y t', ty, pos, after, guard⟩ :: rest) σ C :=
  x_p hw rfl (fun w => by
    simp only [execOp, hx, hy, Sem.run_bind, run_eqGuard_agg w _ t x y _ _ hE.guard, Result.andThen_ok, run_eql_struct, hE.eq]
    rfl) h
theorem x_neqA {α : Type} [DecidableEq α] {enc : α → List Value} {t t' : TypeId} {a b : α} {x y : Operand} (hE : EqTy P t enc) (hw : wantS ops σ ⟨some d, .binOp .neq t x y t', ty, pos, after, guard⟩ = true) (hx : ev σ x = .agg (enc a).toArray) (hy : ev σ y = .agg (enc b).toArray)
    (h : xw dr P ops W Q (k + 1) rest (upd σ d (.bool (!decide (a = b)))) C) : xw dr P ops W Q k (⟨some d, .binOp .neq t x y t', ty, pos, after, guard⟩ :: rest) σ C :=
  x_p hw rfl (fun w => by
    simp only [execOp, hx, hy, Sem.run_bind, run_eqGuard_agg w _ t x y _ _ hE.guard, Result.andThen_ok, run_neq_struct, hE.eq]
    rfl) h
end

section
variable {dr : Bool} {P : Program} {ops : Array Oper} {W : List Nat} {Q : Fr → World → Prop} {k : Nat} {rest : List Oper} {σ : Fr} {C : World → Prop}
variable {d : Nat} {ty : TypeId} {pos : String} {after : Array Edge} {guard : Option (Nat × Bool)}
theorem x_neqS {t t' : TypeId} {a b : ByteArray} {x y : Operand} (hw : wantS ops σ ⟨some d, .binOp .neq t x y t', ty, pos, after, guard⟩ = true) (hx : ev σ x = .string a) (hy : ev σ y = .string b)
    (h : xw dr P ops W Q (k + 1) rest (upd σ d (.bool (!(a.toList == b.toList)))) C) : xw dr P ops W Q k (⟨some d, .binOp .neq t x y t', ty, pos, after, guard⟩ :: rest) σ C :=
  x_p hw rfl (fun w => by
    have e3 : eqGuard .neq t x y (.string a) (.string b) = pure () := rfl
    simp only [execOp, hx, hy, e3, Sem.run_bind, Sem.run_pure, Result.andThen_ok, binOp_string_neq]) h
theorem x_eqlS {t t' : TypeId} {a : ByteArray} {x y : Operand} (hw : wantS ops σ ⟨some d, .binOp .eql t x y t', ty, pos, after, guard⟩ = true) (hx : ev σ x = .string a) (hy : ev σ y = .string a)
    (h : xw dr P ops W Q (k + 1) rest (upd σ d (.bool true)) C) : xw dr P ops W Q k (⟨some d, .binOp .eql t x y t', ty, pos, after, guard⟩ :: rest) σ C :=
  x_p hw rfl (fun w => by
    have e3 : eqGuard .eql t x y (.string a) (.string a) = pure () := rfl
    simp only [execOp, hx, hy, e3, Sem.run_bind, Sem.run_pure, Result.andThen_ok, binOp_string_eql, beq_self_eq_true]) h
theorem x_eqlB {t t' : TypeId} {a b : Bool} {x y : Operand} (hu : P.underlying t = some .bool) (hw : wantS ops σ ⟨some d, .binOp .eql t x y t', ty, pos, after, guard⟩ = true) (hx : ev σ x = .bool a) (hy : ev σ y = .bool b)
    (h : xw dr P ops W Q (k + 1) rest (upd σ d (.bool (a == b))) C) : xw dr P ops W Q k (⟨some d, .binOp .eql t x y t', ty, pos, after, guard⟩ :: rest) σ C :=
  x_p hw rfl (fun w => by
    have e3 : eqGuard .eql t x y (.bool a) (.bool b) = pure () := rfl
    simp only [execOp, hx, hy, e3, Sem.run_bind, Sem.run_pure, Result.andThen_ok, run_eql_bool w t a b hu]) h
/-- a text, as its bytes -/
abbrev S (l : List UInt8) : Value := .string ⟨l.toArray⟩
theorem x_addS {t t' : TypeId} {a b : List UInt8} {x y : Operand} (hw : wantS ops σ ⟨some d, .binOp .add t x y t', ty, pos, after, guard⟩ = true) (hx : ev σ x = S a) (hy : ev σ y = S b) (hb : a.length + b.length ≤ 9223372036854775807)
    (h : xw dr P ops W Q (k + 1) rest (upd σ d (S (a ++ b))) C) : xw dr P ops W Q k (⟨some d, .binOp .add t x y t', ty, pos, after, guard⟩ :: rest) σ C :=
  x_p hw rfl (fun w => by
    have e3 : eqGuard .add t x y (S a) (S b) = pure () := rfl
    have e5 : (⟨a.toArray⟩ : ByteArray) ++ ⟨b.toArray⟩ = ⟨(a ++ b).toArray⟩ := by
      apply ByteArray.ext
      simp
    have e4 := run_string_add_sum (P := P) w (⟨a.toArray⟩ : ByteArray) ⟨b.toArray⟩ (by simpa [ByteArray.size] using hb)
    rw [e5] at e4
    simp only [execOp, hx, hy, e3, Sem.run_bind, Sem.run_pure, Result.andThen_ok, binOp_string_add, e4]) h
end

/-- Things with memory: how they are read, where that lies. -/
structure Thing (α : Type) where
  enc : α → List Value
  k : Nat
  Rdy : World → α → Prop
  In : α → Nat → Prop
  len : ∀ x, (enc x).length = k
  get : ∀ {F : Nat → Prop} {w w' : World} {x : α}, Rdy w x → Upd F w w' → (∀ b, In x b → ¬F b) → Rdy w' x
  lt : ∀ {w : World} {x : α}, Rdy w x → ∀ {b : Nat}, In x b → b < w.heap.size
/-- A list of such things that is made of new memory alone. -/
structure Lst {α : Type} (T : Thing α) (e : TypeId) (w0 w : World) (sv : Value) (out : List α) : Prop where
  own : Own w e T.k sv out.length (fl T.enc out)
  each : ∀ y ∈ out, T.Rdy w y
  new : ∀ b, isIn sv b → w0.heap.size ≤ b
  newE : ∀ y ∈ out, ∀ b, T.In y b → w0.heap.size ≤ b
  ap : ∀ y ∈ out, ∀ b, T.In y b → ¬isIn sv b
section
variable {α : Type} {T : Thing α} {e : TypeId} {w0 w w' : World} {sv : Value} {out : List α}
theorem Thing.at {x : α} (h : T.Rdy w x) (u : Ext w w') : T.Rdy w' x := T.get h u fun _ _ h => h
theorem Lst.nil (T : Thing α) (e : TypeId) (w0 w : World) : Lst T e w0 w (.slice none 0 0) [] := ⟨Own.nil _ _ _, by simp, fun b h => h.elim, by simp, by simp⟩
theorem Lst.get {F : Nat → Prop} (h : Lst T e w0 w sv out) (u : Upd F w w') (hn : ∀ b, w0.heap.size ≤ b → b < w.heap.size → ¬F b) : Lst T e w0 w' sv out :=
  ⟨h.own.get u fun b hb => hn b (h.new b hb) (h.own.lt hb), fun r hr => T.get (h.each r hr) u fun b hb => hn b (h.newE r hr b hb) (T.lt (h.each r hr) hb), h.new, h.newE, h.ap⟩
theorem Lst.at (h : Lst T e w0 w sv out) (u : Ext w w') : Lst T e w0 w' sv out := h.get u fun _ _ _ h => h
theorem Lst.old {w1 : World} (h : Lst T e w0 w sv out) (hl : w1.heap.size ≤ w0.heap.size) : Lst T e w1 w sv out := ⟨h.own, h.each, fun b hb => Nat.le_trans hl (h.new b hb), fun y hy b hb => Nat.le_trans hl (h.newE y hy b hb), h.ap⟩
theorem Lst.push {w1 w2 : World} {sv' : Value} {r : α} (h : Lst T e w0 w sv out) (h0 : w0.heap.size ≤ w.heap.size) (hr : T.Rdy w1 r) (hn : ∀ b, T.In r b → w.heap.size ≤ b) (x : Ext w w1) (ho : Own w2 e T.k sv' (out.length + 1) (fl T.enc out ++ T.enc r)) (u : Upd (isIn sv) w1 w2) (hin : ∀ b, isIn sv' b → isIn sv b ∨ w1.heap.size ≤ b) : Lst T e w0 w2 sv' (out ++ [r]) := by
  have s1 := x.size
  have rn : ∀ b, T.In r b → ¬isIn sv b := fun b hb hv => by have := h.own.lt hv; have := hn b hb; omega
  have e1 : ∀ z ∈ out, T.Rdy w1 z := fun z hz => T.get (h.each z hz) x fun _ _ h => h
  refine ⟨?_, fun z hz => ?_, fun b hb => ?_, fun z hz b hb => ?_, fun z hz b hb hv => ?_⟩
  · rw [List.length_append, List.length_singleton, fl_append, fl_one]; exact ho
  · rcases List.mem_append.1 hz with hz | hz
    · exact T.get (e1 z hz) u (h.ap z hz)
    · rw [List.mem_singleton.1 hz]
      exact T.get hr u rn
  · rcases hin b hb with h' | h'
    · exact h.new b h'
    · omega
  · rcases List.mem_append.1 hz with hz | hz
    · exact h.newE z hz b hb
    · rw [List.mem_singleton.1 hz] at hb
      have := hn b hb; omega
  · rcases hin b hv with h' | h'
    · rcases List.mem_append.1 hz with hz | hz
      · exact h.ap z hz b hb h'
      · rw [List.mem_singleton.1 hz] at hb
        exact rn b hb h'
    · rcases List.mem_append.1 hz with hz | hz
      · have := T.lt (e1 z hz) hb; omega
      · rw [List.mem_singleton.1 hz] at hb
        have := T.lt hr hb; omega
end

structure Nm where
  ts : Int
  id : Int
def Nm.cells (x : Nm) : List Value := [.int .i64 x.ts, .int .u64 x.id]
def Nm.zero : Nm := ⟨0, 0⟩
theorem nm_len' (x : Nm) : x.cells.length = 2 := rfl
theorem nm_one'' (x : Nm) : x.cells.all Value.oneCell' = true := rfl
instance : DecidableEq Nm := fun a b => decidable_of_iff (a.ts = b.ts ∧ a.id = b.id) (by cases a; cases b; simp)
/-- a number that is known, or not -/
structure Vl where
  kn : Bool
  n : Int
instance : DecidableEq Vl := fun a b => decidable_of_iff (a.kn = b.kn ∧ a.n = b.n) (by cases a; cases b; simp)
def Vl.cells (x : Vl) : List Value := [.bool x.kn, .int .i64 x.n]
abbrev Vl.v (x : Vl) : Value := .agg x.cells.toArray
theorem vl_len (x : Vl) : x.cells.length = 2 := rfl
theorem vl_one (x : Vl) : x.cells.all Value.oneCell' = true := rfl
def encN (n : Int) : List Value := [.int .i64 n]
theorem encN_len (n : Int) : (encN n).length = 1 := rfl
theorem encN_one (n : Int) : (encN n).all Value.oneCell' = true := rfl

/-- A match: its cells, and what its lists say. -/
structure Mt where
  dec : Int
  na : Option Addr
  nc : Nat
  names : List Nm
  la : Option Addr
  lc : Nat
  lens : List Int
  va : Option Addr
  vc : Nat
  vals : List Vl
def Mt.ns (x : Mt) : Value := .slice x.na x.names.length x.nc
def Mt.ls (x : Mt) : Value := .slice x.la x.lens.length x.lc
def Mt.vs (x : Mt) : Value := .slice x.va x.vals.length x.vc
def Mt.cells (x : Mt) : List Value := [.int .i64 x.dec, .slice x.na x.names.length x.nc, .slice x.la x.lens.length x.lc, .slice x.va x.vals.length x.vc]
abbrev Mt.v (x : Mt) : Value := .agg x.cells.toArray
def Mt.zero : Mt := ⟨0, none, 0, [], none, 0, [], none, 0, []⟩
def Mt.says (x : Mt) : Int × List Nm × List Int × List Vl := (x.dec, x.names, x.lens, x.vals)
/-- a slice that reads so; where it lies is known if anything lies there -/
def Mt.Rdy (w : World) (x : Mt) : Prop := Rd w 2 x.ns x.names.length (fl Nm.cells x.names) ∧ Rd w 1 x.ls x.lens.length (fl encN x.lens) ∧ Rd w 2 x.vs x.vals.length (fl Vl.cells x.vals) ∧ x.names.length ≤ 9223372036854775807 ∧ x.lens.length ≤ 9223372036854775807 ∧ x.vals.length ≤ 9223372036854775807
def Mt.In (x : Mt) (b : Nat) : Prop := (0 < x.names.length ∧ isIn x.ns b) ∨ (0 < x.lens.length ∧ isIn x.ls b) ∨ (0 < x.vals.length ∧ isIn x.vs b)
section
variable {w w' : World} {sz n : Nat} {sv : Value} {xs : List Value}
theorem Sx.Rd.get0 {F : Nat → Prop} (h : Rd w sz sv n xs) (u : Upd F w w') (hn : ∀ b, 0 < n → isIn sv b → ¬F b) : Rd w' sz sv n xs := by
  rcases Nat.eq_zero_or_pos n with h0 | h0
  · obtain ⟨h1, a, c, rfl, h2⟩ := h
    exact ⟨h1, a, c, rfl, fun h => absurd h (by omega)⟩
  · exact h.get u fun b hb => hn b h0 hb
theorem Sx.Rd.lt0 (h : Rd w sz sv n xs) (h0 : 0 < n) {b : Nat} (hb : isIn sv b) : b < w.heap.size := by
  obtain ⟨b', o, c, rfl, h1, _⟩ := h.pos h0
  have e : b = b' := hb
  rw [e]; exact h1
end
theorem Mt.Rdy.get {F : Nat → Prop} {w w' : World} {x : Mt} (h : x.Rdy w) (u : Upd F w w') (hn : ∀ b, x.In b → ¬F b) : x.Rdy w' :=
  ⟨h.1.get0 u fun b h0 hb => hn b (.inl ⟨h0, hb⟩), h.2.1.get0 u fun b h0 hb => hn b (.inr (.inl ⟨h0, hb⟩)), h.2.2.1.get0 u fun b h0 hb => hn b (.inr (.inr ⟨h0, hb⟩)), h.2.2.2⟩
theorem Mt.Rdy.at {w w' : World} {x : Mt} (h : x.Rdy w) (u : Ext w w') : x.Rdy w' := h.get u fun _ _ h => h
theorem Mt.Rdy.lt {w : World} {x : Mt} (h : x.Rdy w) {b : Nat} (hb : x.In b) : b < w.heap.size := by
  rcases hb with ⟨h0, hb⟩ | ⟨h0, hb⟩ | ⟨h0, hb⟩
  · exact h.1.lt0 h0 hb
  · exact h.2.1.lt0 h0 hb
  · exact h.2.2.1.lt0 h0 hb
theorem mt_len (x : Mt) : x.cells.length = 4 := rfl
theorem mt_one (x : Mt) : x.cells.all Value.oneCell' = true := rfl
/-- small enough to be copied -/
structure Mt.Sm (x : Mt) : Prop where
  n : x.names.length * 16 ≤ 140737488351232
  l : x.lens.length * 8 ≤ 140737488351232
  v : x.vals.length * 16 ≤ 140737488351232
/-- a match whose lists are its own -/
structure Mt.Own (w : World) (x : Mt) : Prop where
  n : Sx.Own w 58 2 x.ns x.names.length (fl Nm.cells x.names)
  l : Sx.Own w 3 1 x.ls x.lens.length (fl encN x.lens)
  v : Sx.Own w 61 2 x.vs x.vals.length (fl Vl.cells x.vals)
  nl : ∀ b, isIn x.ns b → ¬isIn x.ls b
  nv : ∀ b, isIn x.ns b → ¬isIn x.vs b
  lv : ∀ b, isIn x.ls b → ¬isIn x.vs b
  sm : x.Sm
/-- all blocks of its lists, room too -/
def Mt.At (x : Mt) (b : Nat) : Prop := isIn x.ns b ∨ isIn x.ls b ∨ isIn x.vs b
theorem Mt.In.at {x : Mt} {b : Nat} (h : x.In b) : x.At b := by
  rcases h with h | h | h
  · exact .inl h.2
  · exact .inr (.inl h.2)
  · exact .inr (.inr h.2)
theorem Mt.Own.rdy {w : World} {x : Mt} (h : x.Own w) : x.Rdy w := ⟨h.n.rd, h.l.rd, h.v.rd, by have := h.sm.n; omega, by have := h.sm.l; omega, by have := h.sm.v; omega⟩
theorem Mt.Own.get {F : Nat → Prop} {w w' : World} {x : Mt} (h : x.Own w) (u : Upd F w w') (hn : ∀ b, x.At b → ¬F b) : x.Own w' :=
  ⟨h.n.get u fun b hb => hn b (.inl hb), h.l.get u fun b hb => hn b (.inr (.inl hb)), h.v.get u fun b hb => hn b (.inr (.inr hb)), h.nl, h.nv, h.lv, h.sm⟩
theorem Mt.Own.lt {w : World} {x : Mt} (h : x.Own w) {b : Nat} (hb : x.At b) : b < w.heap.size := by
  rcases hb with h' | h' | h'
  · exact h.n.lt h'
  · exact h.l.lt h'
  · exact h.v.lt h'
/-- a copy that shares nothing -/
structure Copy (w w' : World) (x y : Mt) : Prop where
  says : y.says = x.says
  own : y.Own w'
  new : ∀ b, y.At b → w.heap.size ≤ b
  ext : Ext w w'
theorem room_of {n k : Nat} (h : n * k ≤ 140737488351232) (hk : 1 ≤ k ∧ k ≤ 256) : Room n k := by
  have h1 : n * 1 ≤ n * k := Nat.mul_le_mul_left _ hk.1
  have h2 : n / 4 * k ≤ n * k / 4 := by
    have : n / 4 * 4 * k ≤ n * k := Nat.mul_le_mul_right _ (by omega)
    rw [Nat.mul_right_comm] at this
    omega
  refine ⟨by omega, ?_⟩
  rw [Nat.add_mul, Nat.add_mul]
  omega

/-- a text in a list -/
def encS (l : List UInt8) : List Value := [S l]
theorem encS_len (l : List UInt8) : (encS l).length = 1 := rfl
theorem encS_one (l : List UInt8) : (encS l).all Value.oneCell' = true := rfl
/-- a node of a tree -/
structure Nd where
  op : Int
  kd : Int
  s1 : List UInt8
  s2 : List UInt8
  a : Int
  b : Int
def Nd.cells (x : Nd) : List Value := [.int .i64 x.op, .int .i64 x.kd, S x.s1, S x.s2, .int .i64 x.a, .int .i64 x.b]
theorem nd_len (x : Nd) : x.cells.length = 6 := rfl
theorem nd_one (x : Nd) : x.cells.all Value.oneCell' = true := rfl
instance : DecidableEq Nd := fun a b => decidable_of_iff (a.op = b.op ∧ a.kd = b.kd ∧ a.s1 = b.s1 ∧ a.s2 = b.s2 ∧ a.a = b.a ∧ a.b = b.b) (by cases a; cases b; simp)
/-- a tree -/
structure Tr where
  a : Option Addr
  c : Nat
  ns : List Nd
def Tr.cells (x : Tr) : List Value := [.slice x.a x.ns.length x.c]
theorem tr_len (x : Tr) : x.cells.length = 1 := rfl
structure Tr.Rdy (w : World) (x : Tr) : Prop where
  rd : Rd w 6 (.slice x.a x.ns.length x.c) x.ns.length (fl Nd.cells x.ns)
  sm : x.ns.length * 64 ≤ 140737488351232
def Tr.In (x : Tr) (b : Nat) : Prop := 0 < x.ns.length ∧ isIn (.slice x.a x.ns.length x.c) b
def tTr : Thing Tr := ⟨Tr.cells, 1, Tr.Rdy, Tr.In, tr_len, fun h u hn => ⟨h.rd.get0 u fun b h0 hb => hn b ⟨h0, hb⟩, h.sm⟩, fun h _ hb => h.rd.lt0 hb.1 hb.2⟩
/-- an item of a query -/
structure It where
  neg : Bool
  ta : Option Addr
  tc : Nat
  types : List (List UInt8)
  var : List UInt8
  lo : Int
  hi : Int
def It.cells (x : It) : List Value := [.bool x.neg, .slice x.ta x.types.length x.tc, S x.var, .int .i64 x.lo, .int .i64 x.hi]
theorem it_len (x : It) : x.cells.length = 5 := rfl
theorem it_one (x : It) : x.cells.all Value.oneCell' = true := rfl
abbrev It.v (x : It) : Value := .agg x.cells.toArray
def It.says (x : It) : Bool × List (List UInt8) × List UInt8 × Int × Int := (x.neg, x.types, x.var, x.lo, x.hi)
structure It.Rdy (w : World) (x : It) : Prop where
  rd : Rd w 1 (.slice x.ta x.types.length x.tc) x.types.length (fl encS x.types)
  sm : x.types.length * 16 ≤ 140737488351232
def It.In (x : It) (b : Nat) : Prop := 0 < x.types.length ∧ isIn (.slice x.ta x.types.length x.tc) b
def tIt : Thing It := ⟨It.cells, 5, It.Rdy, It.In, it_len, fun h u hn => ⟨h.rd.get0 u fun b h0 hb => hn b ⟨h0, hb⟩, h.sm⟩, fun h _ hb => h.rd.lt0 hb.1 hb.2⟩
/-- a query -/
structure Qr where
  ia : Option Addr
  ic : Nat
  items : List It
  mode : Int
  after : Int
  wa : Option Addr
  wc : Nat
  wh : List Nd
  within : Int
  by_ : List UInt8
  ra : Option Addr
  rc : Nat
  ret : List Tr
def Qr.cells (x : Qr) : List Value := [.slice x.ia x.items.length x.ic, .int .i64 x.mode, .int .i64 x.after, .slice x.wa x.wh.length x.wc, .int .i64 x.within, S x.by_, .slice x.ra x.ret.length x.rc]
abbrev Qr.v (x : Qr) : Value := .agg x.cells.toArray
def Qr.says (x : Qr) : List (Bool × List (List UInt8) × List UInt8 × Int × Int) × Int × Int × List Nd × Int × List UInt8 × List (List Nd) := (x.items.map It.says, x.mode, x.after, x.wh, x.within, x.by_, x.ret.map Tr.ns)
structure Qr.Rdy (w : World) (x : Qr) : Prop where
  it : Rd w 5 (.slice x.ia x.items.length x.ic) x.items.length (fl It.cells x.items)
  its : ∀ y ∈ x.items, y.Rdy w
  si : x.items.length * 64 ≤ 140737488351232
  wh : Rd w 6 (.slice x.wa x.wh.length x.wc) x.wh.length (fl Nd.cells x.wh)
  sw : x.wh.length * 64 ≤ 140737488351232
  rt : Rd w 1 (.slice x.ra x.ret.length x.rc) x.ret.length (fl Tr.cells x.ret)
  rts : ∀ y ∈ x.ret, y.Rdy w
  sr : x.ret.length * 24 ≤ 140737488351232
theorem It.Rdy.at {w w' : World} {x : It} (h : x.Rdy w) (u : Ext w w') : x.Rdy w' := ⟨h.rd.at u, h.sm⟩
theorem Tr.Rdy.at {w w' : World} {x : Tr} (h : x.Rdy w) (u : Ext w w') : x.Rdy w' := ⟨h.rd.at u, h.sm⟩
theorem Qr.Rdy.at {w w' : World} {x : Qr} (h : x.Rdy w) (u : Ext w w') : x.Rdy w' :=
  ⟨h.it.at u, fun y hy => (h.its y hy).at u, h.si, h.wh.at u, h.sw, h.rt.at u, fun y hy => (h.rts y hy).at u, h.sr⟩

set_option maxRecDepth 100000 in
theorem eq_nm : EqTy Tryd.prog 58 Nm.cells := ⟨fun x y w => by
  rw [run_equalIn_struct w 9999 58 _ _ (by kernel_rfl) (by kernel_rfl), eqF_of _ [(2, 0), (56, 1)] (by kernel_rfl)]
  rw [eqF_cons (a := .int .i64 x.ts) (b := .int .i64 y.ts) (by kernel_rfl) (by kernel_rfl) (run_equalIn_int w 9998 2 .i64 .i64 _ _ (by kernel_rfl)) <|
    eqF_cons (a := .int .u64 x.id) (b := .int .u64 y.id) (by kernel_rfl) (by kernel_rfl) (run_equalIn_int w 9998 56 .u64 .u64 _ _ (by kernel_rfl)) eqF_nil]
  congr 1
  rw [Bool.eq_iff_iff]
  cases x; cases y
  simp, by kernel_rfl⟩
set_option maxRecDepth 100000 in
theorem eq_vl : EqTy Tryd.prog 61 Vl.cells := ⟨fun x y w => by
  rw [run_equalIn_struct w 9999 61 _ _ (by kernel_rfl) (by kernel_rfl), eqF_of _ [(4, 0), (2, 1)] (by kernel_rfl)]
  rw [eqF_cons (a := .bool x.kn) (b := .bool y.kn) (by kernel_rfl) (by kernel_rfl) (run_equalIn_bool w 9998 4 _ _ (by kernel_rfl)) <|
    eqF_cons (a := .int .i64 x.n) (b := .int .i64 y.n) (by kernel_rfl) (by kernel_rfl) (run_equalIn_int w 9998 2 .i64 .i64 _ _ (by kernel_rfl)) eqF_nil]
  congr 1
  rw [Bool.eq_iff_iff]
  cases x; cases y
  simp, by kernel_rfl⟩
theorem beqS (a b : List UInt8) : ((⟨a.toArray⟩ : ByteArray).toList == (⟨b.toArray⟩ : ByteArray).toList) = decide (a = b) := by
  rw [ByteArray.toList_eq, ByteArray.toList_eq, Bool.eq_iff_iff]
  simp
set_option maxRecDepth 100000 in
theorem eq_nd : EqTy Tryd.prog 80 Nd.cells := ⟨fun x y w => by
  rw [run_equalIn_struct w 9999 80 _ _ (by kernel_rfl) (by kernel_rfl), eqF_of _ [(47, 0), (2, 1), (9, 2), (9, 3), (3, 4), (3, 5)] (by kernel_rfl)]
  rw [eqF_cons (a := .int .i64 x.op) (b := .int .i64 y.op) (by kernel_rfl) (by kernel_rfl) (run_equalIn_int w 9998 47 .i64 .i64 _ _ (by kernel_rfl)) <|
    eqF_cons (a := .int .i64 x.kd) (b := .int .i64 y.kd) (by kernel_rfl) (by kernel_rfl) (run_equalIn_int w 9998 2 .i64 .i64 _ _ (by kernel_rfl)) <|
    eqF_cons (a := S x.s1) (b := S y.s1) (by kernel_rfl) (by kernel_rfl) (run_equalIn_string w 9998 9 _ _ (by kernel_rfl)) <|
    eqF_cons (a := S x.s2) (b := S y.s2) (by kernel_rfl) (by kernel_rfl) (run_equalIn_string w 9998 9 _ _ (by kernel_rfl)) <|
    eqF_cons (a := .int .i64 x.a) (b := .int .i64 y.a) (by kernel_rfl) (by kernel_rfl) (run_equalIn_int w 9998 3 .i64 .i64 _ _ (by kernel_rfl)) <|
    eqF_cons (a := .int .i64 x.b) (b := .int .i64 y.b) (by kernel_rfl) (by kernel_rfl) (run_equalIn_int w 9998 3 .i64 .i64 _ _ (by kernel_rfl)) eqF_nil]
  congr 1
  rw [beqS, beqS, Bool.eq_iff_iff]
  cases x; cases y
  simp, by kernel_rfl⟩
end Go.Proofs.YtngmlmfkegoghaaDoor
