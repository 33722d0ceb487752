/- Things that lie apart in memory. No conditions. -/
import Derived.Test.YtpnigekkbmanlaaWt
namespace Go.Proofs.Ytpnigekkbmanlaa
open Hp Sx

/-- something that holds of the memory, and where it lies -/
structure As where
  P : World → Prop
  In : Nat → Prop
  get : ∀ {F : Nat → Prop} {w w' : World}, P w → Upd F w w' → (∀ b, In b → ¬F b) → P w'
  lt : ∀ {w : World} {b : Nat}, P w → In b → b < w.heap.size
/-- all of them hold, each apart from the others -/
def Star (w : World) : List As → Prop
  | [] => True
  | a :: r => a.P w ∧ (∀ b, a.In b → ∀ c ∈ r, ¬c.In b) ∧ Star w r
section
variable {F : Nat → Prop} {w w' : World} {a a' c : As} {sq bs r : List As} {b : Nat}
theorem As.at (h : a.P w) (u : Ext w w') : a.P w' := a.get h u fun _ _ h => h
theorem Star.mem : ∀ {sq : List As}, Star w sq → a ∈ sq → a.P w
  | c :: r, h, ha => by
    rcases List.mem_cons.1 ha with rfl | ha
    · exact h.1
    · exact Star.mem h.2.2 ha
theorem Star.nth {i : Nat} (h : Star w sq) (hi : sq[i]? = some a) : a.P w := h.mem (List.mem_of_getElem? hi)
theorem Star.get (u : Upd F w w') : ∀ {sq : List As}, Star w sq → (∀ a ∈ sq, ∀ b, a.In b → ¬F b) → Star w' sq
  | [], _, _ => trivial
  | c :: r, h, hF => ⟨c.get h.1 u (hF c (by simp)), h.2.1, Star.get u h.2.2 fun a ha => hF a (by simp [ha])⟩
theorem Star.ext (h : Star w sq) (u : Ext w w') : Star w' sq := h.get u fun _ _ _ _ h => h
theorem Star.app : ∀ {sq bs : List As}, Star w (sq ++ bs) ↔ Star w sq ∧ Star w bs ∧ ∀ a ∈ sq, ∀ b, a.In b → ∀ c ∈ bs, ¬c.In b
  | [], bs => by simp [Star]
  | a :: r, bs => by
    have ih := Star.app (sq := r) (bs := bs)
    simp only [List.cons_append, Star]
    constructor
    · rintro ⟨h1, h2, h3⟩
      obtain ⟨k1, k2, k3⟩ := ih.1 h3
      refine ⟨⟨h1, fun b hb c hc => h2 b hb c (by simp [hc]), k1⟩, k2, fun x hx b hb c hc => ?_⟩
      rcases List.mem_cons.1 hx with rfl | hx
      · exact h2 b hb c (by simp [hc])
      · exact k3 x hx b hb c hc
    · rintro ⟨⟨h1, h2, h3⟩, h4, h5⟩
      refine ⟨h1, fun b hb c hc => ?_, ih.2 ⟨h3, h4, fun x hx => h5 x (by simp [hx])⟩⟩
      rcases List.mem_append.1 hc with hc | hc
      · exact h2 b hb c hc
      · exact h5 a (by simp) b hb c hc
theorem Star.perm (hp : sq.Perm bs) : Star w sq → Star w bs := by
  induction hp with
  | nil => exact id
  | cons x p ih => exact fun h => ⟨h.1, fun b hb c hc => h.2.1 b hb c (p.mem_iff.2 hc), ih h.2.2⟩
  | swap x y l =>
    rintro ⟨h1, h2, h3, h4, h5⟩
    refine ⟨h3, fun b hb c hc => ?_, h1, fun b hb c hc => h2 b hb c (by simp [hc]), h5⟩
    rcases List.mem_cons.1 hc with rfl | hc
    · exact fun hb' => h2 b hb' x (by simp) hb
    · exact h4 b hb c hc
  | trans _ _ h1 h2 => exact fun h => h2 (h1 h)
theorem as_erase : ∀ {sq : List As} {i : Nat}, sq[i]? = some a → sq.Perm (a :: sq.eraseIdx i)
  | c :: r, 0, h => by simp at h; subst h; exact List.Perm.refl _
  | c :: r, i + 1, h => ((as_erase (sq := r) (i := i) (by simpa using h)).cons c).trans (List.Perm.swap _ _ _)
/-- one of them brought to the front -/
theorem Star.pull (i : Nat) (h : Star w sq) (hi : sq[i]? = some a) : Star w (a :: sq.eraseIdx i) := Star.perm (as_erase hi) h
theorem Star.ne {i j : Nat} (h : Star w sq) (hi : sq[i]? = some a) (hj : sq[j]? = some c) (hne : i ≠ j) (hb : a.In b) : ¬c.In b := by
  have h1 := h.pull i hi
  refine h1.2.1 b hb c ?_
  rw [List.mem_eraseIdx_iff_getElem?]
  exact ⟨j, fun e => hne e.symm, hj⟩
/-- What only turns some of them, and makes new ones. -/
theorem Star.frame {sq sq' r : List As} (h : Star w (sq ++ r)) (u : Upd F w w') (hF : ∀ b, b < w.heap.size → F b → ∃ a ∈ sq, a.In b) (s : Star w' sq') (hin : ∀ c ∈ sq', ∀ b, c.In b → (∃ a ∈ sq, a.In b) ∨ w.heap.size ≤ b) : Star w' (sq' ++ r) := by
  obtain ⟨_, h2, h3⟩ := Star.app.1 h
  refine Star.app.2 ⟨s, ?_, fun c hc b hb x hx hxb => ?_⟩
  · refine Star.get (F := fun b => b < w.heap.size ∧ F b) ⟨u.os, u.tape, u.output, u.size, fun b hb hn => u.keep b hb fun hf => hn ⟨hb, hf⟩⟩ h2 fun x hx b hxb hf => ?_
    obtain ⟨a, ha, hab⟩ := hF b hf.1 hf.2
    exact h3 a ha b hab x hx hxb
  · rcases hin c hc b hb with ⟨a, ha, hab⟩ | hge
    · exact h3 a ha b hab x hx hxb
    · have := x.lt (h2.mem hx) hxb
      omega
/-- One of them has turned. -/
theorem Star.upd {i : Nat} (h : Star w sq) (hi : sq[i]? = some a) (u : Upd F w w') (hF : ∀ b, b < w.heap.size → F b → a.In b) (p : a'.P w') (hin : ∀ b, a'.In b → a.In b ∨ w.heap.size ≤ b) : Star w' (sq.set i a') := by
  have h1 : Star w ([a] ++ sq.eraseIdx i) := h.pull i hi
  have h2 : Star w' ([a'] ++ sq.eraseIdx i) := h1.frame u (fun b hb hf => ⟨a, by simp, hF b hb hf⟩) ⟨p, by simp, trivial⟩ fun c hc b hb => by
    rw [List.mem_singleton.1 hc] at hb
    exact (hin b hb).imp (fun h => ⟨a, by simp, h⟩) id
  have hlt : i < sq.length := (List.getElem?_eq_some_iff.1 hi).1
  have h3 : (sq.set i a')[i]? = some a' := by simp [hlt]
  have h4 := as_erase h3
  rw [List.eraseIdx_set_eq] at h4
  exact Star.perm h4.symm h2
/-- A new one. -/
theorem Star.new (h : Star w r) (u : Ext w w') (p : a.P w') (hin : ∀ b, a.In b → w.heap.size ≤ b) : Star w' (a :: r) :=
  Star.frame (sq := []) (sq' := [a]) h u (fun _ _ h => h.elim) ⟨p, by simp, trivial⟩ fun c hc b hb => by
    rw [List.mem_singleton.1 hc] at hb
    exact .inr (hin b hb)
theorem Star.tail (h : Star w (a :: r)) : Star w r := h.2.2
/-- One of them has turned, another is new. -/
theorem Star.upd2 {i : Nat} {n : As} (h : Star w sq) (hi : sq[i]? = some a) (u : Upd F w w') (hF : ∀ b, b < w.heap.size → F b → a.In b) (p : a'.P w') (hin : ∀ b, a'.In b → a.In b ∨ w.heap.size ≤ b) (q : n.P w') (hn : ∀ b, n.In b → w.heap.size ≤ b) (hne : ∀ b, n.In b → ¬a'.In b) : Star w' (n :: sq.set i a') := by
  have h1 := h.upd hi u hF p hin
  refine ⟨q, fun b hb c hc hcb => ?_, h1⟩
  obtain ⟨j, hj⟩ := List.mem_iff_getElem?.1 hc
  by_cases e : j = i
  · subst e
    have hlt : j < sq.length := (List.getElem?_eq_some_iff.1 hi).1
    simp [hlt] at hj
    subst hj
    exact hne b hb hcb
  · rw [List.getElem?_set_ne (fun h => e h.symm)] at hj
    have := c.lt (h.nth hj) hcb
    have := hn b hb
    omega
/-- A whole list, taken for one. -/
def As.all (sq : List As) : As := ⟨fun w => Star w sq, fun b => ∃ a ∈ sq, a.In b, fun h u hn => h.get u fun a ha b hb => hn b ⟨a, ha, hb⟩, fun h ⟨a, ha, hb⟩ => a.lt (h.mem ha) hb⟩
/-- The first joins the list at a place. -/
theorem Star.join {i : Nat} {xs : List As} (h : Star w (a :: sq)) (hi : sq[i]? = some (As.all xs)) : Star w (sq.set i (As.all (xs ++ [a]))) := by
  have h1 : Star w (As.all xs :: a :: sq.eraseIdx i) := (h.pull (i + 1) (a := As.all xs) (by simpa using hi))
  have h2 : Star w ([As.all xs, a] ++ sq.eraseIdx i) := h1
  have hs : Star w (xs ++ [a]) := Star.app.2 ⟨h1.1, ⟨h1.2.2.1, by simp, trivial⟩, fun x hx b hb c hc => by
    rw [List.mem_singleton.1 hc]
    exact h1.2.1 b ⟨x, hx, hb⟩ a (by simp)⟩
  have h3 : Star w ([As.all (xs ++ [a])] ++ sq.eraseIdx i) := h2.frame (Upd.refl (fun _ => False) w) (fun _ _ h => h.elim) ⟨hs, by simp, trivial⟩ fun c hc b hb => by
    rw [List.mem_singleton.1 hc] at hb
    obtain ⟨x, hx, hb⟩ := hb
    rcases List.mem_append.1 hx with hx | hx
    · exact .inl ⟨As.all xs, by simp, x, hx, hb⟩
    · rw [List.mem_singleton.1 hx] at hb
      exact .inl ⟨a, by simp, hb⟩
  have hlt : i < sq.length := (List.getElem?_eq_some_iff.1 hi).1
  have h4 := as_erase (show (sq.set i (As.all (xs ++ [a])))[i]? = some (As.all (xs ++ [a])) by simp [hlt])
  rw [List.eraseIdx_set_eq] at h4
  exact Star.perm h4.symm h3
end
/-- A list of its own. -/
def aOwn (e : TypeId) (k : Nat) (v : Value) (n : Nat) (xs : List Value) : As := ⟨fun w => Own w e k v n xs, isIn v, fun h u hn => h.get u hn, fun h hb => h.lt hb⟩
/-- things apart in memory that is new since w0; nothing that was there has turned -/
structure Rg (w0 w : World) (sq : List As) : Prop where
  s : Star w sq
  u : Ext w0 w
  n : ∀ a ∈ sq, ∀ b, a.In b → w0.heap.size ≤ b
section
variable {F : Nat → Prop} {w0 w w' : World} {a a' c : As} {sq : List As} {i : Nat}
theorem Rg.nil (u : Ext w0 w) : Rg w0 w [] := ⟨trivial, u, by simp⟩
theorem Rg.nth (h : Rg w0 w sq) (hi : sq[i]? = some a) : a.P w := h.s.nth hi
theorem Rg.ext (h : Rg w0 w sq) (u : Ext w w') : Rg w0 w' sq := ⟨h.s.ext u, h.u.trans u, h.n⟩
theorem Rg.new (h : Rg w0 w sq) (u : Ext w w') (p : a.P w') (hin : ∀ b, a.In b → w.heap.size ≤ b) : Rg w0 w' (a :: sq) := by
  refine ⟨h.s.new u p hin, h.u.trans u, fun x hx b hb => ?_⟩
  rcases List.mem_cons.1 hx with rfl | hx
  · have := hin b hb
    have := h.u.size
    omega
  · exact h.n x hx b hb
theorem Rg.upd (h : Rg w0 w sq) (hi : sq[i]? = some a) (u : Upd F w w') (hF : ∀ b, b < w.heap.size → F b → a.In b) (p : a'.P w') (hin : ∀ b, a'.In b → a.In b ∨ w.heap.size ≤ b) : Rg w0 w' (sq.set i a') := by
  have hm := List.mem_of_getElem? hi
  have s0 := h.u.size
  refine ⟨h.s.upd hi u hF p hin, h.u.trans' u fun b hb hf => ?_, fun x hx b hb => ?_⟩
  · have := h.n a hm b (hF b (by omega) hf)
    omega
  · rcases List.mem_or_eq_of_mem_set hx with hx | rfl
    · exact h.n x hx b hb
    · rcases hin b hb with hb | hb
      · exact h.n a hm b hb
      · omega
theorem Rg.upd2 {n : As} (h : Rg w0 w sq) (hi : sq[i]? = some a) (u : Upd F w w') (hF : ∀ b, b < w.heap.size → F b → a.In b) (p : a'.P w') (hin : ∀ b, a'.In b → a.In b ∨ w.heap.size ≤ b) (q : n.P w') (hn : ∀ b, n.In b → w.heap.size ≤ b) (hne : ∀ b, n.In b → ¬a'.In b) : Rg w0 w' (n :: sq.set i a') := by
  have h1 := h.upd hi u hF p hin
  have s0 := h.u.size
  refine ⟨h.s.upd2 hi u hF p hin q hn hne, h1.u, fun x hx b hb => ?_⟩
  rcases List.mem_cons.1 hx with rfl | hx
  · have := hn b hb
    omega
  · exact h1.n x hx b hb
theorem Rg.tail (h : Rg w0 w (a :: sq)) : Rg w0 w sq := ⟨h.s.tail, h.u, fun x hx => h.n x (by simp [hx])⟩
theorem Rg.join {xs : List As} (h : Rg w0 w (a :: sq)) (hi : sq[i]? = some (As.all xs)) : Rg w0 w (sq.set i (As.all (xs ++ [a]))) := by
  refine ⟨h.s.join hi, h.u, fun x hx b hb => ?_⟩
  rcases List.mem_or_eq_of_mem_set hx with hx | rfl
  · exact h.n x (by simp [hx]) b hb
  · obtain ⟨y, hy, hb⟩ := hb
    rcases List.mem_append.1 hy with hy | hy
    · exact h.n (As.all xs) (by simp [List.mem_of_getElem? hi]) b ⟨y, hy, hb⟩
    · rw [List.mem_singleton.1 hy] at hb
      exact h.n a (by simp) b hb
theorem Rg.pull (i : Nat) (h : Rg w0 w sq) (hi : sq[i]? = some a) : Rg w0 w (a :: sq.eraseIdx i) := by
  refine ⟨h.s.pull i hi, h.u, fun x hx => h.n x ?_⟩
  rcases List.mem_cons.1 hx with rfl | hx
  · exact List.mem_of_getElem? hi
  · exact List.mem_of_mem_eraseIdx hx
/-- One that lies nowhere. -/
theorem Rg.snoc0 (h : Rg w0 w sq) (p : a.P w) (hn : ∀ b, ¬a.In b) : Rg w0 w (sq ++ [a]) := by
  refine ⟨Star.app.2 ⟨h.s, ⟨p, by simp, trivial⟩, fun x _ b _ c hc hb => ?_⟩, h.u, fun x hx b hb => ?_⟩
  · rw [List.mem_singleton.1 hc] at hb
    exact hn b hb
  · rcases List.mem_append.1 hx with hx | hx
    · exact h.n x hx b hb
    · rw [List.mem_singleton.1 hx] at hb
      exact absurd hb (hn b)
theorem Rg.front {sq' : List As} (h : Rg w0 w (sq ++ sq')) : Star w sq := (Star.app.1 h.s).1
/-- What only turns the first; it is let go. -/
theorem Rg.spend (h : Rg w0 w (a :: sq)) (u : Upd F w w') (hF : ∀ b, b < w.heap.size → F b → a.In b) : Rg w0 w' sq := by
  have s0 := h.u.size
  refine ⟨Star.frame (sq := [a]) (sq' := []) h.s u (fun b hb hf => ⟨a, by simp, hF b hb hf⟩) trivial (fun c hc => by simp at hc), h.u.trans' u fun b hb hf => ?_, fun x hx => h.n x (by simp [hx])⟩
  have := h.n a (by simp) b (hF b (by omega) hf)
  omega
end
end Go.Proofs.Ytpnigekkbmanlaa
