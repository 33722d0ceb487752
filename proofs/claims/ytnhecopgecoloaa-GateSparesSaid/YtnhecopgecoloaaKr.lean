/- What was made since a world, each thing apart; GateSpares' families. No conditions. -/
import Derived.Test.YtnhecopgecoloaaKq
namespace Go.Proofs.Ytnhecopgecoloaa
open Hp Sx

/-- things apart in memory that is new since w0; nothing that was there has turned -/
structure Rg (w0 w : World) (sq : List As) : Prop where
  s : Star w sq
  u : Ext w0 w
  n : ∀ a ∈ sq, ∀ b, a.In b → w0.heap.size ≤ b
section
variable {F : Nat → Prop} {w0 w w' : World} {a a' c : As} {sq : List As} {i : Nat}
theorem Rg.nil (u : Ext w0 w) : Rg w0 w [] := ⟨trivial, u, by simp⟩
theorem Rg.nth (h : Rg w0 w sq) (hi : sq[i]? = some a) : a.P w := h.s.nth hi
theorem Rg.ext (h : Rg w0 w sq) (u : Ext w w') : Rg w0 w' sq := ⟨h.s.ext u, h.u.trans u, h.n⟩
theorem Rg.new (h : Rg w0 w sq) (u : Ext w w') (p : a.P w') (hin : ∀ b, a.In b → w.heap.size ≤ b) : Rg w0 w' (a :: sq) := by
  refine ⟨h.s.new u p hin, h.u.trans u, fun x hx b hb => ?_⟩
  rcases List.mem_cons.1 hx with rfl | hx
  · have := hin b hb
    have := h.u.size
    omega
  · exact h.n x hx b hb
theorem Rg.upd (h : Rg w0 w sq) (hi : sq[i]? = some a) (u : Upd F w w') (hF : ∀ b, b < w.heap.size → F b → a.In b) (p : a'.P w') (hin : ∀ b, a'.In b → a.In b ∨ w.heap.size ≤ b) : Rg w0 w' (sq.set i a') := by
  have hm := List.mem_of_getElem? hi
  have s0 := h.u.size
  refine ⟨h.s.upd hi u hF p hin, h.u.trans' u fun b hb hf => ?_, fun x hx b hb => ?_⟩
  · have := h.n a hm b (hF b (by omega) hf)
    omega
  · rcases List.mem_or_eq_of_mem_set hx with hx | rfl
    · exact h.n x hx b hb
    · rcases hin b hb with hb | hb
      · exact h.n a hm b hb
      · omega
theorem Rg.upd2 {n : As} (h : Rg w0 w sq) (hi : sq[i]? = some a) (u : Upd F w w') (hF : ∀ b, b < w.heap.size → F b → a.In b) (p : a'.P w') (hin : ∀ b, a'.In b → a.In b ∨ w.heap.size ≤ b) (q : n.P w') (hn : ∀ b, n.In b → w.heap.size ≤ b) (hne : ∀ b, n.In b → ¬a'.In b) : Rg w0 w' (n :: sq.set i a') := by
  have h1 := h.upd hi u hF p hin
  have s0 := h.u.size
  refine ⟨h.s.upd2 hi u hF p hin q hn hne, h1.u, fun x hx b hb => ?_⟩
  rcases List.mem_cons.1 hx with rfl | hx
  · have := hn b hb
    omega
  · exact h1.n x hx b hb
theorem Rg.tail (h : Rg w0 w (a :: sq)) : Rg w0 w sq := ⟨h.s.tail, h.u, fun x hx => h.n x (by simp [hx])⟩
theorem Rg.join {xs : List As} (h : Rg w0 w (a :: sq)) (hi : sq[i]? = some (As.all xs)) : Rg w0 w (sq.set i (As.all (xs ++ [a]))) := by
  refine ⟨h.s.join hi, h.u, fun x hx b hb => ?_⟩
  rcases List.mem_or_eq_of_mem_set hx with hx | rfl
  · exact h.n x (by simp [hx]) b hb
  · obtain ⟨y, hy, hb⟩ := hb
    rcases List.mem_append.1 hy with hy | hy
    · exact h.n (As.all xs) (by simp [List.mem_of_getElem? hi]) b ⟨y, hy, hb⟩
    · rw [List.mem_singleton.1 hy] at hb
      exact h.n a (by simp) b hb
theorem Rg.pull (i : Nat) (h : Rg w0 w sq) (hi : sq[i]? = some a) : Rg w0 w (a :: sq.eraseIdx i) := by
  refine ⟨h.s.pull i hi, h.u, fun x hx => h.n x ?_⟩
  rcases List.mem_cons.1 hx with rfl | hx
  · exact List.mem_of_getElem? hi
  · exact List.mem_of_mem_eraseIdx hx
/-- One that lies nowhere. -/
theorem Rg.snoc0 (h : Rg w0 w sq) (p : a.P w) (hn : ∀ b, ¬a.In b) : Rg w0 w (sq ++ [a]) := by
  refine ⟨Star.app.2 ⟨h.s, ⟨p, by simp, trivial⟩, fun x _ b _ c hc hb => ?_⟩, h.u, fun x hx b hb => ?_⟩
  · rw [List.mem_singleton.1 hc] at hb
    exact hn b hb
  · rcases List.mem_append.1 hx with hx | hx
    · exact h.n x hx b hb
    · rw [List.mem_singleton.1 hx] at hb
      exact absurd hb (hn b)
/-- A list is its own twin. -/
theorem Rg.twin {v : Value} {L : List Ev} (h : Rg w0 w (aEv v L :: sq)) : Rg w0 w (aTwin v v L L :: sq) :=
  h.upd (i := 0) (a' := aTwin v v L L) rfl (Upd.refl (fun _ => False) w) (fun _ _ h => h.elim) (Twin.of h.s.1) fun _ hb => .inl (hb.elim id id)
theorem Rg.front {sq' : List As} (h : Rg w0 w (sq ++ sq')) : Star w sq := (Star.app.1 h.s).1
/-- What only turns the first; it is let go. -/
theorem Rg.spend (h : Rg w0 w (a :: sq)) (u : Upd F w w') (hF : ∀ b, b < w.heap.size → F b → a.In b) : Rg w0 w' sq := by
  have s0 := h.u.size
  refine ⟨Star.frame (sq := [a]) (sq' := []) h.s u (fun b hb hf => ⟨a, by simp, hF b hb hf⟩) trivial (fun c hc => by simp at hc), h.u.trans' u fun b hb hf => ?_, fun x hx => h.n x (by simp [hx])⟩
  have := h.n a (by simp) b (hF b (by omega) hf)
  omega
end
theorem fam_snoc {n : Nat} {f f' : Nat → As} {a : As} (hi : f' n = a) (hf : ∀ j, j < n → f' j = f j) : fam n f ++ [a] = fam (n + 1) f' := by
  unfold fam
  rw [List.range_succ, List.map_append, List.map_singleton, hi]
  congr 1
  exact List.map_congr_left fun j hj => (hf j (List.mem_range.1 hj)).symm
/-- lists, each its own twin -/
abbrev lsf (n : Nat) (V : Nat → Value) (L : Nat → List Ev) : As := apf n V V L L
theorem lsf_snoc {n : Nat} {V : Nat → Value} {L : Nat → List Ev} {v : Value} {l : List Ev} : As.all (fam n (fun j => aTwin (V j) (V j) (L j) (L j)) ++ [aTwin v v l l]) = lsf (n + 1) (set1 V n v) (set1 L n l) := by
  unfold lsf apf
  congr 1
  refine fam_snoc ?_ fun j hj => ?_
  · rw [set1_eq, set1_eq]
  · rw [set1_ne _ _ (by omega), set1_ne _ _ (by omega)]
/-- what was marked -/
def bkf (n : Nat) (O M : Nat → Value) (L : Nat → List Ev) : As := As.all (fam n fun j => aTwin (O j) (M j) (marks j (L j).length) (marks j ((L j).length + 1)))
theorem bkf_snoc {n : Nat} {O M : Nat → Value} {L : Nat → List Ev} {o m : Value} {l : List Ev} : As.all (fam n (fun j => aTwin (O j) (M j) (marks j (L j).length) (marks j ((L j).length + 1))) ++ [aTwin o m (marks n l.length) (marks n (l.length + 1))]) = bkf (n + 1) (set1 O n o) (set1 M n m) (set1 L n l) := by
  unfold bkf
  congr 1
  refine fam_snoc ?_ fun j hj => ?_
  · rw [set1_eq, set1_eq, set1_eq]
  · rw [set1_ne _ _ (by omega), set1_ne _ _ (by omega), set1_ne _ _ (by omega)]
theorem bkf_at {n : Nat} {O M : Nat → Value} {L : Nat → List Ev} {w : World} (h : (bkf n O M L).P w) {j : Nat} (hj : j < n) : Twin w (O j) (M j) (marks j (L j).length) (marks j ((L j).length + 1)) := Star.nth h (fam_nth (f := fun j => aTwin (O j) (M j) (marks j (L j).length) (marks j ((L j).length + 1))) hj)
def encK (x : Value × Value) : List Value := [x.1, x.2]
theorem encK_len (x : Value × Value) : (encK x).length = 2 := rfl
def kepts (n : Nat) (O M : Nat → Value) : List (Value × Value) := (List.range n).map fun j => (O j, M j)
theorem kepts_len (n : Nat) (O M : Nat → Value) : (kepts n O M).length = n := by simp [kepts]
theorem kepts_get {n i : Nat} {O M : Nat → Value} (h : i < n) : (kepts n O M)[i]? = some (O i, M i) := by
  rw [kepts, List.getElem?_map, List.getElem?_range h]
  rfl
theorem kepts_snoc {n : Nat} {O M : Nat → Value} {o m : Value} : kepts n O M ++ [(o, m)] = kepts (n + 1) (set1 O n o) (set1 M n m) := by
  unfold kepts
  rw [List.range_succ, List.map_append, List.map_singleton, set1_eq, set1_eq]
  congr 1
  refine List.map_congr_left fun j hj => ?_
  have := List.mem_range.1 hj
  rw [set1_ne _ _ (by omega), set1_ne _ _ (by omega)]
theorem vals_snoc {n : Nat} {V : Nat → Value} {v : Value} : vals n V ++ [v] = vals (n + 1) (set1 V n v) := by
  rw [vals_succ, set1_eq]
  congr 1
  exact (vals_eq fun j hj => set1_ne _ _ (by omega)).symm
def nv : Nat → Value := fun _ => .bool false
/-- a gate, or none -/
structure Og where
  bg : Nat
  r : Nat
  bp : Nat
  sp : Value
  N : Nat
def aOg (g : GS) : Option Og → As
  | none => ⟨fun _ => True, fun _ => False, fun _ _ _ => trivial, fun _ h => h.elim⟩
  | some x => aGt x.bg x.r x.bp x.sp g x.N
def Og.val : Option Og → Value
  | none => .pointer none
  | some x => .pointer (some ⟨x.bg, 0, none⟩)
theorem first_code : (fresh 64).pcode (mk minT 5) = 0 :=
  pcode0 rfl ⟨by simp [mk], by simp [mk, minT, maxT]⟩ (by simp [mk, fresh, minT, noM]) (by simp [fresh]) (by simp [fresh])
end Go.Proofs.Ytnhecopgecoloaa
