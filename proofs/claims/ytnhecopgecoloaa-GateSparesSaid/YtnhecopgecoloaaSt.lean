/- Things that lie apart in memory. No conditions. -/
import Derived.Test.YtnhecopgecoloaaGw
namespace Go.Proofs.Ytnhecopgecoloaa
open Hp Sx

/-- something that holds of the memory, and where it lies -/
structure As where
  P : World → Prop
  In : Nat → Prop
  get : ∀ {F : Nat → Prop} {w w' : World}, P w → Upd F w w' → (∀ b, In b → ¬F b) → P w'
  lt : ∀ {w : World} {b : Nat}, P w → In b → b < w.heap.size
/-- all of them hold, each apart from the others -/
def Star (w : World) : List As → Prop
  | [] => True
  | a :: r => a.P w ∧ (∀ b, a.In b → ∀ c ∈ r, ¬c.In b) ∧ Star w r
section
variable {F : Nat → Prop} {w w' : World} {a a' c : As} {sq bs r : List As} {b : Nat}
theorem As.at (h : a.P w) (u : Ext w w') : a.P w' := a.get h u fun _ _ h => h
theorem Star.mem : ∀ {sq : List As}, Star w sq → a ∈ sq → a.P w
  | c :: r, h, ha => by
    rcases List.mem_cons.1 ha with rfl | ha
    · exact h.1
    · exact Star.mem h.2.2 ha
theorem Star.nth {i : Nat} (h : Star w sq) (hi : sq[i]? = some a) : a.P w := h.mem (List.mem_of_getElem? hi)
theorem Star.get (u : Upd F w w') : ∀ {sq : List As}, Star w sq → (∀ a ∈ sq, ∀ b, a.In b → ¬F b) → Star w' sq
  | [], _, _ => trivial
  | c :: r, h, hF => ⟨c.get h.1 u (hF c (by simp)), h.2.1, Star.get u h.2.2 fun a ha => hF a (by simp [ha])⟩
theorem Star.ext (h : Star w sq) (u : Ext w w') : Star w' sq := h.get u fun _ _ _ _ h => h
theorem Star.app : ∀ {sq bs : List As}, Star w (sq ++ bs) ↔ Star w sq ∧ Star w bs ∧ ∀ a ∈ sq, ∀ b, a.In b → ∀ c ∈ bs, ¬c.In b
  | [], bs => by simp [Star]
  | a :: r, bs => by
    have ih := Star.app (sq := r) (bs := bs)
    simp only [List.cons_append, Star]
    constructor
    · rintro ⟨h1, h2, h3⟩
      obtain ⟨k1, k2, k3⟩ := ih.1 h3
      refine ⟨⟨h1, fun b hb c hc => h2 b hb c (by simp [hc]), k1⟩, k2, fun x hx b hb c hc => ?_⟩
      rcases List.mem_cons.1 hx with rfl | hx
      · exact h2 b hb c (by simp [hc])
      · exact k3 x hx b hb c hc
    · rintro ⟨⟨h1, h2, h3⟩, h4, h5⟩
      refine ⟨h1, fun b hb c hc => ?_, ih.2 ⟨h3, h4, fun x hx => h5 x (by simp [hx])⟩⟩
      rcases List.mem_append.1 hc with hc | hc
      · exact h2 b hb c hc
      · exact h5 a (by simp) b hb c hc
theorem Star.perm (hp : sq.Perm bs) : Star w sq → Star w bs := by
  induction hp with
  | nil => exact id
  | cons x p ih => exact fun h => ⟨h.1, fun b hb c hc => h.2.1 b hb c (p.mem_iff.2 hc), ih h.2.2⟩
  | swap x y l =>
    rintro ⟨h1, h2, h3, h4, h5⟩
    refine ⟨h3, fun b hb c hc => ?_, h1, fun b hb c hc => h2 b hb c (by simp [hc]), h5⟩
    rcases List.mem_cons.1 hc with rfl | hc
    · exact fun hb' => h2 b hb' x (by simp) hb
    · exact h4 b hb c hc
  | trans _ _ h1 h2 => exact fun h => h2 (h1 h)
theorem as_erase : ∀ {sq : List As} {i : Nat}, sq[i]? = some a → sq.Perm (a :: sq.eraseIdx i)
  | c :: r, 0, h => by simp at h; subst h; exact List.Perm.refl _
  | c :: r, i + 1, h => ((as_erase (sq := r) (i := i) (by simpa using h)).cons c).trans (List.Perm.swap _ _ _)
/-- one of them brought to the front -/
theorem Star.pull (i : Nat) (h : Star w sq) (hi : sq[i]? = some a) : Star w (a :: sq.eraseIdx i) := Star.perm (as_erase hi) h
theorem Star.ne {i j : Nat} (h : Star w sq) (hi : sq[i]? = some a) (hj : sq[j]? = some c) (hne : i ≠ j) (hb : a.In b) : ¬c.In b := by
  have h1 := h.pull i hi
  refine h1.2.1 b hb c ?_
  rw [List.mem_eraseIdx_iff_getElem?]
  exact ⟨j, fun e => hne e.symm, hj⟩
/-- What only turns some of them, and makes new ones. -/
theorem Star.frame {sq sq' r : List As} (h : Star w (sq ++ r)) (u : Upd F w w') (hF : ∀ b, b < w.heap.size → F b → ∃ a ∈ sq, a.In b) (s : Star w' sq') (hin : ∀ c ∈ sq', ∀ b, c.In b → (∃ a ∈ sq, a.In b) ∨ w.heap.size ≤ b) : Star w' (sq' ++ r) := by
  obtain ⟨_, h2, h3⟩ := Star.app.1 h
  refine Star.app.2 ⟨s, ?_, fun c hc b hb x hx hxb => ?_⟩
  · refine Star.get (F := fun b => b < w.heap.size ∧ F b) ⟨u.os, u.tape, u.output, u.size, fun b hb hn => u.keep b hb fun hf => hn ⟨hb, hf⟩⟩ h2 fun x hx b hxb hf => ?_
    obtain ⟨a, ha, hab⟩ := hF b hf.1 hf.2
    exact h3 a ha b hab x hx hxb
  · rcases hin c hc b hb with ⟨a, ha, hab⟩ | hge
    · exact h3 a ha b hab x hx hxb
    · have := x.lt (h2.mem hx) hxb
      omega
/-- One of them has turned. -/
theorem Star.upd {i : Nat} (h : Star w sq) (hi : sq[i]? = some a) (u : Upd F w w') (hF : ∀ b, b < w.heap.size → F b → a.In b) (p : a'.P w') (hin : ∀ b, a'.In b → a.In b ∨ w.heap.size ≤ b) : Star w' (sq.set i a') := by
  have h1 : Star w ([a] ++ sq.eraseIdx i) := h.pull i hi
  have h2 : Star w' ([a'] ++ sq.eraseIdx i) := h1.frame u (fun b hb hf => ⟨a, by simp, hF b hb hf⟩) ⟨p, by simp, trivial⟩ fun c hc b hb => by
    rw [List.mem_singleton.1 hc] at hb
    exact (hin b hb).imp (fun h => ⟨a, by simp, h⟩) id
  have hlt : i < sq.length := (List.getElem?_eq_some_iff.1 hi).1
  have h3 : (sq.set i a')[i]? = some a' := by simp [hlt]
  have h4 := as_erase h3
  rw [List.eraseIdx_set_eq] at h4
  exact Star.perm h4.symm h2
/-- A new one. -/
theorem Star.new (h : Star w r) (u : Ext w w') (p : a.P w') (hin : ∀ b, a.In b → w.heap.size ≤ b) : Star w' (a :: r) :=
  Star.frame (sq := []) (sq' := [a]) h u (fun _ _ h => h.elim) ⟨p, by simp, trivial⟩ fun c hc b hb => by
    rw [List.mem_singleton.1 hc] at hb
    exact .inr (hin b hb)
theorem Star.tail (h : Star w (a :: r)) : Star w r := h.2.2
/-- One of them has turned, another is new. -/
theorem Star.upd2 {i : Nat} {n : As} (h : Star w sq) (hi : sq[i]? = some a) (u : Upd F w w') (hF : ∀ b, b < w.heap.size → F b → a.In b) (p : a'.P w') (hin : ∀ b, a'.In b → a.In b ∨ w.heap.size ≤ b) (q : n.P w') (hn : ∀ b, n.In b → w.heap.size ≤ b) (hne : ∀ b, n.In b → ¬a'.In b) : Star w' (n :: sq.set i a') := by
  have h1 := h.upd hi u hF p hin
  refine ⟨q, fun b hb c hc hcb => ?_, h1⟩
  obtain ⟨j, hj⟩ := List.mem_iff_getElem?.1 hc
  by_cases e : j = i
  · subst e
    have hlt : j < sq.length := (List.getElem?_eq_some_iff.1 hi).1
    simp [hlt] at hj
    subst hj
    exact hne b hb hcb
  · rw [List.getElem?_set_ne (fun h => e h.symm)] at hj
    have := c.lt (h.nth hj) hcb
    have := hn b hb
    omega
/-- A whole list, taken for one. -/
def As.all (sq : List As) : As := ⟨fun w => Star w sq, fun b => ∃ a ∈ sq, a.In b, fun h u hn => h.get u fun a ha b hb => hn b ⟨a, ha, hb⟩, fun h ⟨a, ha, hb⟩ => a.lt (h.mem ha) hb⟩
/-- The first joins the list at a place. -/
theorem Star.join {i : Nat} {xs : List As} (h : Star w (a :: sq)) (hi : sq[i]? = some (As.all xs)) : Star w (sq.set i (As.all (xs ++ [a]))) := by
  have h1 : Star w (As.all xs :: a :: sq.eraseIdx i) := (h.pull (i + 1) (a := As.all xs) (by simpa using hi))
  have h2 : Star w ([As.all xs, a] ++ sq.eraseIdx i) := h1
  have hs : Star w (xs ++ [a]) := Star.app.2 ⟨h1.1, ⟨h1.2.2.1, by simp, trivial⟩, fun x hx b hb c hc => by
    rw [List.mem_singleton.1 hc]
    exact h1.2.1 b ⟨x, hx, hb⟩ a (by simp)⟩
  have h3 : Star w ([As.all (xs ++ [a])] ++ sq.eraseIdx i) := h2.frame (Upd.refl (fun _ => False) w) (fun _ _ h => h.elim) ⟨hs, by simp, trivial⟩ fun c hc b hb => by
    rw [List.mem_singleton.1 hc] at hb
    obtain ⟨x, hx, hb⟩ := hb
    rcases List.mem_append.1 hx with hx | hx
    · exact .inl ⟨As.all xs, by simp, x, hx, hb⟩
    · rw [List.mem_singleton.1 hx] at hb
      exact .inl ⟨a, by simp, hb⟩
  have hlt : i < sq.length := (List.getElem?_eq_some_iff.1 hi).1
  have h4 := as_erase (show (sq.set i (As.all (xs ++ [a])))[i]? = some (As.all (xs ++ [a])) by simp [hlt])
  rw [List.eraseIdx_set_eq] at h4
  exact Star.perm h4.symm h3
end
/-- A list of its own. -/
def aOwn (e : TypeId) (k : Nat) (v : Value) (n : Nat) (xs : List Value) : As := ⟨fun w => Own w e k v n xs, isIn v, fun h u hn => h.get u hn, fun h hb => h.lt hb⟩
abbrev aEv (v : Value) (L : List Ev) : As := aOwn 30 11 v L.length (fl Ev.cells L)
def aGt (bg r bp : Nat) (sp : Value) (g : GS) (N : Nat) : As := ⟨fun w => Gt w bg r bp sp g N, gfoot bg r bp sp, fun h u hn => h.get u hn, fun h hb => h.lt hb⟩
/-- A list, and what it has grown into; both stay in use. -/
structure Twin (w : World) (av gv : Value) (X Y : List Ev) : Prop where
  own : Own w 30 11 gv Y.length (fl Ev.cells Y)
  sl : ∃ a c, av = .slice a X.length c
  pre : ∃ M, Y = X ++ M
  sh : X.length = 0 ∨ (∃ b c c', av = .slice (some ⟨b, 0, none⟩) X.length c ∧ gv = .slice (some ⟨b, 0, none⟩) Y.length c') ∨ (Rd w 11 av X.length (fl Ev.cells X) ∧ ∀ b, isIn av b → ¬isIn gv b)
  lt : ∀ b, isIn av b → b < w.heap.size
theorem Twin.get {F : Nat → Prop} {w w' : World} {av gv : Value} {X Y : List Ev} (h : Twin w av gv X Y) (u : Upd F w w') (hn : ∀ b, isIn av b ∨ isIn gv b → ¬F b) : Twin w' av gv X Y :=
  ⟨h.own.get u fun b hb => hn b (.inr hb), h.sl, h.pre, h.sh.imp id fun k => k.imp id fun k => ⟨k.1.get u fun b hb => hn b (.inl hb), k.2⟩, fun b hb => Nat.lt_of_lt_of_le (h.lt b hb) u.size⟩
def aTwin (av gv : Value) (X Y : List Ev) : As := ⟨fun w => Twin w av gv X Y, fun b => isIn av b ∨ isIn gv b, fun h u hn => h.get u hn, fun h hb => hb.elim (fun hb => h.lt _ hb) fun hb => h.own.lt hb⟩
theorem Twin.rd {w : World} {av gv : Value} {X Y : List Ev} (h : Twin w av gv X Y) : Rd w 11 av X.length (fl Ev.cells X) := by
  obtain ⟨a, c, he⟩ := h.sl
  rcases h.sh with h0 | ⟨b, c0, c', h1, h2⟩ | h1
  · rw [List.eq_nil_of_length_eq_zero h0, he, h0]
    exact Rd.nil _ _ _ _
  · refine ⟨fl_length ev_len X, some ⟨b, 0, none⟩, c0, h1, fun h0 => ?_⟩
    obtain ⟨M, rfl⟩ := h.pre
    rcases h.own.2 with ⟨_, h3⟩ | ⟨g, cap, rest, h3, hb, _⟩
    · simp only [List.length_append] at h3
      omega
    · rw [h2] at h3
      simp only [Value.slice.injEq, Option.some.injEq, Addr.mk.injEq, and_true] at h3
      obtain ⟨rfl, _, _⟩ := h3
      refine ⟨b, 0, rfl, hb.lt, fun j v hj => hb.cell ?_⟩
      rw [Nat.zero_add, fl_append, List.append_assoc, List.getElem?_append_left (List.getElem?_eq_some_iff.1 hj).1]
      exact hj
  · exact h1.1
/-- It grows on. -/
theorem Twin.grow {w w' : World} {av gv gv' : Value} {X Y N : List Ev} (h : Twin w av gv X Y) (ho : Own w' 30 11 gv' (Y.length + N.length) (fl Ev.cells Y ++ fl Ev.cells N)) (hN : 0 < N.length)
    (hc : (Upd (isIn gv) w w' ∧ ∀ b, isIn gv' b → isIn gv b) ∨ (Ext w w' ∧ ∀ b, isIn gv' b → w.heap.size ≤ b)) : Twin w' av gv' X (Y ++ N) := by
  have own' : Own w' 30 11 gv' (Y ++ N).length (fl Ev.cells (Y ++ N)) := by rw [fl_append, List.length_append]; exact ho
  obtain ⟨M, hM⟩ := h.pre
  have pre' : ∃ M, Y ++ N = X ++ M := ⟨M ++ N, by rw [hM, List.append_assoc]⟩
  have lt' : ∀ b, isIn av b → b < w'.heap.size := fun b hb => by
    have := h.lt b hb
    rcases hc with ⟨u, _⟩ | ⟨u, _⟩ <;> have := u.size <;> omega
  refine ⟨own', h.sl, pre', ?_, lt'⟩
  rcases h.sh with h0 | ⟨b, c0, c', h1, h2⟩ | h1
  · exact .inl h0
  · rcases own'.2 with ⟨_, h3⟩ | ⟨g, cap, rest, h3, hb, _⟩
    · simp only [List.length_append] at h3; omega
    · rcases hc with ⟨u, hin⟩ | ⟨u, hin⟩
      · have hg : g = b := by
          have := hin g (by rw [h3]; rfl)
          rw [h2] at this
          exact this
        subst hg
        exact .inr (.inl ⟨g, c0, cap, h1, h3⟩)
      · refine .inr (.inr ⟨h.rd.at u, fun b' hb' hg => ?_⟩)
        have := h.lt b' hb'
        have := hin b' hg
        omega
  · rcases hc with ⟨u, hin⟩ | ⟨u, hin⟩
    · exact .inr (.inr ⟨h1.1.get u fun b hb => h1.2 b hb, fun b hb hg => h1.2 b hb (hin b hg)⟩)
    · refine .inr (.inr ⟨h1.1.at u, fun b' hb' hg => ?_⟩)
      have := h.lt b' hb'
      have := hin b' hg
      omega
/-- a list is its own twin -/
theorem Twin.of {w : World} {av : Value} {X : List Ev} (h : Own w 30 11 av X.length (fl Ev.cells X)) : Twin w av av X X := by
  refine ⟨h, h.slice, ⟨[], by simp⟩, ?_, fun b hb => h.lt hb⟩
  rcases h.2 with ⟨_, h0⟩ | ⟨g, cap, rest, h1, _⟩
  · exact .inl h0
  · exact .inr (.inl ⟨g, cap, cap, h1, h1⟩)
end Go.Proofs.Ytnhecopgecoloaa
