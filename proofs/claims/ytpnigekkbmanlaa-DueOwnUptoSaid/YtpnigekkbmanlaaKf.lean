/- Lists of what waits, owned whole: how they stay; roomy. Conditions: few things. -/
import Derived.Test.YtpnigekkbmanlaaKe
namespace Go.Proofs.Ytpnigekkbmanlaa
open Sx Hp

theorem set_same {α : Type} : ∀ {l : List α} {i : Nat} {a : α}, l[i]? = some a → l.set i a = l
  | x :: l, 0, a, h => by simp at h; rw [h]; rfl
  | x :: l, i + 1, a, h => by rw [List.set_cons_succ, set_same (by simpa using h)]
section
variable {F : Nat → Prop} {w w' : World} {sq : List As} {a : As}
/-- One of them has turned, and holds. -/
theorem Star.keep (h : Star w sq) (ha : a ∈ sq) (u : Upd F w w') (hF : ∀ b, b < w.heap.size → F b → a.In b) (p : a.P w') : Star w' sq := by
  obtain ⟨i, hi⟩ := List.mem_iff_getElem?.1 ha
  have := h.upd hi u hF p fun b hb => .inl hb
  rwa [set_same hi] at this
end
/-- A list of what waits: it is read, and what waits is owned whole. -/
structure Rw (w : World) (sv : Value) (xs : List Wt) : Prop where
  rd : Rd w 5 sv xs.length (fl Wt.cells xs)
  s : Star w (xs.map Wt.as)
  ap : ∀ x ∈ xs, ∀ b, x.as.In b → ¬isIn sv b
def feet (xs : List Wt) (b : Nat) : Prop := ∃ x ∈ xs, x.as.In b
section
variable {F : Nat → Prop} {w w' : World} {sv : Value} {xs : List Wt} {x : Wt} {a : As}
theorem Rw.at (h : Rw w sv xs) (u : Ext w w') : Rw w' sv xs := ⟨h.rd.at u, h.s.ext u, h.ap⟩
theorem Rw.item (h : Rw w sv xs) (hx : x ∈ xs) : x.as.P w := h.s.mem (List.mem_map.2 ⟨x, hx, rfl⟩)
theorem Rw.turn (h : Rw w sv xs) (hx : x ∈ xs) (u : Upd F w w') (hF : ∀ b, b < w.heap.size → F b → x.as.In b) (p : x.as.P w') : Rw w' sv xs := by
  refine ⟨?_, h.s.keep (List.mem_map.2 ⟨x, hx, rfl⟩) u hF p, h.ap⟩
  obtain ⟨va, vc, rfl⟩ := h.rd.slice
  have u' : Upd (fun b => b < w.heap.size ∧ F b) w w' := ⟨u.os, u.tape, u.output, u.size, fun b hb hn => u.keep b hb fun hf => hn ⟨hb, hf⟩⟩
  exact h.rd.get u' fun b hb hf => h.ap x hx b (hF b hf.1 hf.2) hb
theorem Rw.keep (h : Rw w sv xs) (hx : x ∈ xs) (ha : a ∈ x.parts) (u : Upd F w w') (hF : ∀ b, F b → a.In b) (p : a.P w') : Rw w' sv xs := by
  have hi := h.item hx
  exact h.turn hx u (fun b _ hf => ⟨a, ha, hF b hf⟩) ⟨hi.1.keep ha u (fun b _ hf => hF b hf) p, hi.2⟩
theorem Rw.keepE {e : El} (h : Rw w sv xs) (hx : x ∈ xs) (he : e ∈ x.bs) (u : Upd F w w') (hF : ∀ b, F b → e.as.In b) (p : e.as.P w') : Rw w' sv xs := by
  have hi := h.item hx
  have hal : (As.all (x.bs.map El.as)) ∈ x.parts := by simp [Wt.parts]
  have hs : Star w (x.bs.map El.as) := hi.1.mem hal
  have hm : e.as ∈ x.bs.map El.as := List.mem_map.2 ⟨e, he, rfl⟩
  exact h.keep hx hal u (fun b hf => ⟨e.as, hm, hF b hf⟩) (hs.keep hm u (fun b _ hf => hF b hf) p)
theorem Wt.own_n (h : x.as.P w) : Own w 68 2 x.m.ns x.m.names.length (fl Nm.cells x.m.names) := h.1.nth (i := 0) rfl
theorem Wt.own_l (h : x.as.P w) : Own w 3 1 x.m.ls x.m.lens.length (fl encN x.m.lens) := h.1.nth (i := 1) rfl
theorem Wt.own_v (h : x.as.P w) : Own w 70 2 x.m.vs x.m.vals.length (fl Vl.cells x.m.vals) := h.1.nth (i := 2) rfl
theorem Wt.own_b (h : x.as.P w) : Own w 86 1 x.bv x.bs.length (fl El.cells x.bs) := h.1.nth (i := 3) rfl
theorem Wt.own_e (h : x.as.P w) {e : El} (he : e ∈ x.bs) : Own w 89 11 (.slice e.a e.evs.length e.c) e.evs.length (fl Ev.cells e.evs) :=
  (show Star w (x.bs.map El.as) from h.1.nth (i := 4) rfl).mem (List.mem_map.2 ⟨e, he, rfl⟩)
theorem Wt.rdy_of (h : x.as.P w) : x.Rdy w := by
  have hs := h.2
  refine ⟨⟨(Wt.own_n h).rd, (Wt.own_l h).rd, (Wt.own_v h).rd, by have := hs.m.n; omega, by have := hs.m.l; omega, by have := hs.m.v; omega⟩, (Wt.own_b h).rd, fun e he => ⟨(Wt.own_e h he).rd, hs.e e he⟩, hs.m, hs.b⟩
theorem Rw.rl (h : Rw w sv xs) : RL w sv xs := ⟨h.rd, fun _ hx => Wt.rdy_of (h.item hx)⟩
theorem Lsp.rw' {w0 : World} (h : Lsp tWo 40 w0 w sv xs) : Rw w sv xs := ⟨h.own.rd, star_map h.each h.pw, h.ap⟩
end
/-- owned whole, it is read -/
theorem Lst.own_rl {w0 w : World} {v : Value} {xs : List Wt} (h : Lst tWo 40 w0 w v xs) : RL w v xs := ⟨h.own.rd, fun x hx => Wt.rdy_of (h.each x hx)⟩
/-- few things -/
structure Wt.Lo (x : Wt) : Prop where
  n : x.m.names.length ≤ 1048576
  l : x.m.lens.length ≤ 1048576
  v : x.m.vals.length ≤ 1048576
  b : x.bs.length ≤ 1048576
  e : ∀ e ∈ x.bs, e.evs.length ≤ 1048576
theorem roomS {n b : Nat} (h : n ≤ 1048600) (hb : b ≤ 256) : Room n b := by
  have h0 : n + n / 4 + 512 ≤ 1311262 := by omega
  have h1 : (n + n / 4 + 512) * b ≤ 1311262 * 256 := Nat.mul_le_mul h0 hb
  exact ⟨by omega, Nat.le_trans h1 (by decide)⟩
def nmk (t i : Int) : Nm := ⟨t, i⟩
def vmk (k : Bool) (n : Int) : Vl := ⟨k, n⟩
def emk (t i ty : Int) : Ev := ⟨t, i, ty, 0, 0, 0, 0, 0, 0, 0, 0⟩
end Go.Proofs.Ytpnigekkbmanlaa
