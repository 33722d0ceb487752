/- The program's Line: its text is the one of the plain terms. Conditions: what is read; the line's length. -/
import Derived.Test.YtngmlmfkegoghaaDoorLr
namespace Go.Proofs.YtngmlmfkegoghaaDoor
open Sx
open Go.RowKit

section
variable {dr : Bool} {P : Program} {ops : Array Oper} {W : List Nat} {Q : Fr → World → Prop} {k : Nat} {rest : List Oper} {σ : Fr} {C : World → Prop} {w : World} {d : Nat} {ty : TypeId} {pos : String} {after : Array Edge} {guard : Option (Nat × Bool)}
theorem x_cutFrom {t n c s : Nat} (j : Nat) {kd : IntKind} {i : Int} {a : Option Addr} {x y : Operand} (hw : wantS ops σ ⟨some d, .slice t x (some y) none none, ty, pos, after, guard⟩ = true) (hx : ev σ x = .slice a n c) (hy : ev σ y = .int kd i)
    (hs : elemSz P t = some s) (hi : i = (j : Nat)) (hj : j ≤ n) (h : xw dr P ops W Q (k + 1) rest (upd σ d (.slice (if c = j then a else a.map (·.add (j * s))) (n - j) (c - j))) C) : xw dr P ops W Q k (⟨some d, .slice t x (some y) none none, ty, pos, after, guard⟩ :: rest) σ C := by
  obtain ⟨e, hu, he⟩ := elemSz_parts hs
  subst hi
  refine x_p (v := .slice (if c = j then a else a.map (·.add (j * s))) (n - j) (c - j)) hw rfl (fun w => ?_) h
  simp [execOp, Instr.sliceAt, run_underlying hu, Instr.slice, hx, hy, Instr.sliceBounds, Instr.sliceBound, asIntOf, hj, run_szT he]
theorem x_cutTo0 {t n c s : Nat} (j : Nat) {kd : IntKind} {i : Int} {a : Option Addr} {x y : Operand} (hw : wantS ops σ ⟨some d, .slice t x none (some y) none, ty, pos, after, guard⟩ = true) (hx : ev σ x = .slice a n c) (hy : ev σ y = .int kd i)
    (hs : elemSz P t = some s) (hi : i = (j : Nat)) (hj : j ≤ c) (h : xw dr P ops W Q (k + 1) rest (upd σ d (.slice a j c)) C) : xw dr P ops W Q k (⟨some d, .slice t x none (some y) none, ty, pos, after, guard⟩ :: rest) σ C := by
  obtain ⟨e, hu, he⟩ := elemSz_parts hs
  subst hi
  refine x_p (v := .slice a j c) hw rfl (fun w => ?_) h
  cases a <;> simp [execOp, Instr.sliceAt, run_underlying hu, Instr.slice, hx, hy, Instr.sliceBounds, Instr.sliceBound, asIntOf, hj, run_szT he, Addr.add_zero']
theorem w_max {kd kd' : IntKind} {m n : Int} {x y : Operand} {ats : Array TypeId} (v : Int) (hW : isW dr W k (.call ⟨.builtin .max, #[x, y], ats⟩) = true) (hw : wantS ops σ ⟨some d, .call ⟨.builtin .max, #[x, y], ats⟩, ty, pos, after, guard⟩ = true) (hx : ev σ x = .int kd m) (hy : ev σ y = .int kd' n)
    (e : (if n > m then n else m) = v) (h : xw dr P ops W Q (k + 1) rest (upd σ d (.int kd v)) (Eq w)) : xw dr P ops W Q k (⟨some d, .call ⟨.builtin .max, #[x, y], ats⟩, ty, pos, after, guard⟩ :: rest) σ (Eq w) := by
  refine x_w hw rfl hW ?_
  unfold stepsTo
  simp [execOp, resolve, invoke, builtin, hx, hy, run_max_int2, e, Result.andThen]
  exact h
theorem w_min {kd kd' : IntKind} {m n : Int} {x y : Operand} {ats : Array TypeId} (v : Int) (hW : isW dr W k (.call ⟨.builtin .min, #[x, y], ats⟩) = true) (hw : wantS ops σ ⟨some d, .call ⟨.builtin .min, #[x, y], ats⟩, ty, pos, after, guard⟩ = true) (hx : ev σ x = .int kd m) (hy : ev σ y = .int kd' n)
    (e : (if n < m then n else m) = v) (h : xw dr P ops W Q (k + 1) rest (upd σ d (.int kd v)) (Eq w)) : xw dr P ops W Q k (⟨some d, .call ⟨.builtin .min, #[x, y], ats⟩, ty, pos, after, guard⟩ :: rest) σ (Eq w) := by
  refine x_w hw rfl hW ?_
  unfold stepsTo
  simp [execOp, resolve, invoke, builtin, hx, hy, run_min_int2, e, Result.andThen]
  exact h
end
section
variable {w : World} {sz n c : Nat} {a : Option Addr} {xs : List Value}
theorem Sx.Rd.cutTo (h : Rd w sz (.slice a n c) n xs) {j : Nat} (hj : j ≤ n) : Rd w sz (.slice a j c) j (xs.take (j * sz)) := by
  obtain ⟨h1, a', c', he, h2⟩ := h
  simp only [Value.slice.injEq] at he
  obtain ⟨rfl, _, rfl⟩ := he
  have hle : j * sz ≤ n * sz := Nat.mul_le_mul_right _ hj
  refine ⟨by rw [List.length_take]; omega, a, c, rfl, fun h0 => ?_⟩
  obtain ⟨b, o, rfl, hb, hc⟩ := h2 (by omega)
  refine ⟨b, o, rfl, hb, fun i v hv => hc i v ?_⟩
  rw [List.getElem?_take] at hv
  split at hv
  · exact hv
  · cases hv
theorem Sx.Rd.cutFrom (h : Rd w sz (.slice a n c) n xs) {j : Nat} (hj : j ≤ n) (hc : n ≤ c) : Rd w sz (.slice (if c = j then a else a.map (·.add (j * sz))) (n - j) (c - j)) (n - j) (xs.drop (j * sz)) := by
  obtain ⟨h1, a', c', he, h2⟩ := h
  simp only [Value.slice.injEq] at he
  obtain ⟨rfl, _, rfl⟩ := he
  refine ⟨by rw [List.length_drop, h1, Nat.sub_mul], _, _, rfl, fun h0 => ?_⟩
  obtain ⟨b, o, rfl, hb, hcell⟩ := h2 (by omega)
  rw [if_neg (by omega)]
  refine ⟨b, o + j * sz, by simp [Addr.add_lit], hb, fun i v hv => ?_⟩
  rw [List.getElem?_drop] at hv
  rw [Nat.add_assoc]
  exact hcell _ v hv
variable {α : Type} {enc : α → List Value}
theorem fl_take (hk : ∀ a, (enc a).length = sz) : ∀ (L : List α) (j : Nat), (fl enc L).take (j * sz) = fl enc (L.take j)
  | [], j => by simp [fl]
  | x :: L, 0 => by simp [fl]
  | x :: L, j + 1 => by
    rw [List.take_succ_cons, fl_cons, fl_cons, ← fl_take hk L j, show (j + 1) * sz = (enc x).length + j * sz by rw [hk, Nat.succ_mul]; omega, List.take_length_add_append]
theorem fl_drop (hk : ∀ a, (enc a).length = sz) : ∀ (L : List α) (j : Nat), (fl enc L).drop (j * sz) = fl enc (L.drop j)
  | [], j => by simp [fl]
  | x :: L, 0 => by simp [fl]
  | x :: L, j + 1 => by
    rw [List.drop_succ_cons, fl_cons, ← fl_drop hk L j, show (j + 1) * sz = (enc x).length + j * sz by rw [hk, Nat.succ_mul]; omega, List.drop_length_add_append]
end
/-- what is left of a list, from its p-th thing on -/
structure Pt {α : Type} (enc : α → List Value) (w : World) (sz : Nat) (L : List α) (p : Nat) (a : Option Addr) (c : Nat) : Prop where
  le : p ≤ L.length
  cap : L.length - p ≤ c
  rd : Rd w sz (.slice a (L.length - p) c) (L.length - p) (fl enc (L.drop p))
theorem Pt.from {α : Type} {enc : α → List Value} {w : World} {sz : Nat} {L : List α} {p : Nat} {a : Option Addr} {c : Nat} (h : Pt enc w sz L p a c) (hk : ∀ a, (enc a).length = sz) {j : Nat} (hj : p + j ≤ L.length) : Pt enc w sz L (p + j) (if c = j then a else a.map (·.add (j * sz))) (c - j) := by
  have hc := h.cap
  refine ⟨hj, by omega, ?_⟩
  have := h.rd.cutFrom (j := j) (by omega) h.cap
  rw [fl_drop hk, List.drop_drop] at this
  rw [← Nat.sub_sub]
  exact this
section
variable {b : Nat} {l : List UInt8} {w w1 w' w'' : World}
theorem Bld.at (h : Bld w b b l) (u : Ext w w') : Bld w' b b l := by
  have hb := u.below
  rcases h with h | h
  · have hlt := h.lt
    obtain ⟨hB, v, hv, hown, hne⟩ := h
    exact .inl ⟨hB, v, (hb.block b hlt).trans hv, hown.kept (row := none) ⟨hb.os, hb.tape, hb.output, hb.size, fun k hk _ => hb.block k hk⟩ (Classical.em _), hne⟩
  · have hlt := h.lt
    obtain ⟨hB, v, hv, hown, hne⟩ := h
    exact .inr ⟨hB, v, (hb.block b hlt).trans hv, hown.kept (row := none) ⟨hb.os, hb.tape, hb.output, hb.size, fun k hk _ => hb.block k hk⟩ (Classical.em _), hne⟩
theorem bld_lt (h : Bld w b b l) : b < w.heap.size := h.elim (fun h => h.lt) fun h => h.lt
theorem Left.ext (h : Left b b w' w'') (u : Ext w w') (e : b = w.heap.size) : Ext w w'' := by
  subst e
  exact ext_below (u.below.trans h.lo)
theorem Left.blk {g : Nat} {t : TypeId} {cs : List Value} (h : Left b b w w') (hg : Blk w g t cs) (h5 : t ≠ 5) (hne : g ≠ b) : Blk w' g t cs :=
  h.hi g _ hg (by simpa using hne) (by
    intro c fz e
    simp only [Obj.cells.injEq] at e
    exact h5 e.2.1)
end
end Go.Proofs.YtngmlmfkegoghaaDoor
