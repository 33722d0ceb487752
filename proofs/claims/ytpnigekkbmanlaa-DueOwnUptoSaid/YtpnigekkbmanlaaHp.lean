/- A heap's order in plain lists: sifting up, sifting down, and what is first. No program in sight. -/
namespace Go.Proofs.Ytpnigekkbmanlaa
namespace Hp

/-- An order with ties. -/
structure Ord {α : Type} (lt : α → α → Bool) : Prop where
  irr : ∀ a, lt a a = false
  tr : ∀ a b c, lt a b = true → lt b c = true → lt a c = true
  ev : ∀ a b c, lt a b = false → lt b c = false → lt a c = false

section
variable {α : Type} {lt : α → α → Bool}
/-- ahead: of even ones the lower turn. -/
def ah (lt : α → α → Bool) (a b : α × Int) : Bool := lt a.1 b.1 || (!lt b.1 a.1 && decide (a.2 < b.2))

theorem Ord.asymm (h : Ord lt) {a b : α} (hab : lt a b = true) : lt b a = false := by
  cases hba : lt b a with
  | false => rfl
  | true => have := h.tr a b a hab hba; rw [h.irr] at this; cases this

theorem ah_irr (h : Ord lt) (a : α × Int) : ah lt a a = false := by simp [ah, h.irr]
theorem ah_tr (h : Ord lt) {a b c : α × Int} (h1 : ah lt a b = true) (h2 : ah lt b c = true) : ah lt a c = true := by
  simp only [ah, Bool.or_eq_true, Bool.and_eq_true, Bool.not_eq_true', decide_eq_true_eq] at *
  rcases h1 with h1 | ⟨h1, t1⟩ <;> rcases h2 with h2 | ⟨h2, t2⟩
  · exact .inl (h.tr _ _ _ h1 h2)
  · cases hac : lt a.1 c.1 with
    | true => exact .inl rfl
    | false =>
      have := h.ev a.1 c.1 b.1 hac h2
      rw [h1] at this
      cases this
  · cases hac : lt a.1 c.1 with
    | true => exact .inl rfl
    | false =>
      have := h.ev b.1 a.1 c.1 h1 hac
      rw [h2] at this
      cases this
  · exact .inr ⟨h.ev _ _ _ h2 h1, by omega⟩
/-- not ahead is an order, too -/
theorem na_tr (h : Ord lt) {a b c : α × Int} (h1 : ah lt a b = false) (h2 : ah lt b c = false) : ah lt a c = false := by
  cases hac : ah lt a c with
  | false => rfl
  | true =>
    simp only [ah, Bool.or_eq_true, Bool.and_eq_true, Bool.not_eq_true', decide_eq_true_eq, Bool.or_eq_false_iff, Bool.and_eq_false_iff, Bool.not_eq_false', decide_eq_false_iff_not] at *
    obtain ⟨h1a, h1b⟩ := h1
    obtain ⟨h2a, h2b⟩ := h2
    have hac0 := h.ev _ _ _ h1a h2a
    rcases hac with hac | ⟨hca, ht⟩
    · rw [hac] at hac0; cases hac0
    · rcases h1b with h1b | h1b
      · -- lt b a
        have := h.ev c.1 a.1 b.1 hca h1a
        rcases h2b with h2b | h2b
        · rw [h2b] at this; cases this
        · have := h.ev b.1 c.1 a.1 h2a hca
          rw [h1b] at this; cases this
      · rcases h2b with h2b | h2b
        · have := h.ev c.1 a.1 b.1 hca h1a
          rw [h2b] at this; cases this
        · omega
/-- of two unlike turns one is ahead -/
theorem ah_total {a b : α × Int} (ht : a.2 ≠ b.2) (hab : ah lt a b = false) : ah lt b a = true := by
  simp only [ah, Bool.or_eq_true, Bool.and_eq_true, Bool.not_eq_true', decide_eq_true_eq, Bool.or_eq_false_iff, Bool.and_eq_false_iff, Bool.not_eq_false', decide_eq_false_iff_not] at *
  obtain ⟨h1, h2⟩ := hab
  rcases h2 with h2 | h2
  · exact .inl h2
  · exact .inr ⟨h1, by omega⟩

/-- No entry is ahead of the one above it. -/
def Heap (lt : α → α → Bool) (L : List (α × Int)) : Prop := ∀ i x y, 0 < i → L[i]? = some x → L[(i - 1) / 2]? = some y → ah lt x y = false

/-- A heap but for the entry at 'at', which may be ahead of the ones above it. -/
structure UpInv (lt : α → α → Bool) (L : List (α × Int)) (p : Nat) : Prop where
  le : p < L.length
  rest : ∀ i x y, 0 < i → i ≠ p → L[i]? = some x → L[(i - 1) / 2]? = some y → ah lt x y = false
  over : ∀ i x y, 0 < p → 0 < i → (i - 1) / 2 = p → L[i]? = some x → L[(p - 1) / 2]? = some y → ah lt x y = false
/-- A heap but for the entry at 'at', which may be behind the ones beneath it. -/
structure DownInv (lt : α → α → Bool) (L : List (α × Int)) (p : Nat) : Prop where
  rest : ∀ i x y, 0 < i → (i - 1) / 2 ≠ p → L[i]? = some x → L[(i - 1) / 2]? = some y → ah lt x y = false
  under : ∀ i x y, 0 < p → 0 < i → (i - 1) / 2 = p → L[i]? = some x → L[(p - 1) / 2]? = some y → ah lt x y = false

/-- two entries exchanged -/
def swap (L : List (α × Int)) (i j : Nat) (x y : α × Int) : List (α × Int) := (L.set i y).set j x

theorem swap_length (L : List (α × Int)) (i j : Nat) (x y : α × Int) : (swap L i j x y).length = L.length := by simp [swap]
theorem swap_perm {L : List (α × Int)} {i j : Nat} {x y : α × Int} (hi : L[i]? = some x) (hj : L[j]? = some y) : (swap L i j x y).Perm L := by
  obtain ⟨hi1, hi2⟩ := List.getElem?_eq_some_iff.1 hi
  obtain ⟨hj1, hj2⟩ := List.getElem?_eq_some_iff.1 hj
  unfold swap
  subst hi2; subst hj2
  exact List.set_set_perm hi1 hj1
theorem swap_get {L : List (α × Int)} {i j k : Nat} {x y : α × Int} (hi : L[i]? = some x) (hj : L[j]? = some y) (hne : i ≠ j) : (swap L i j x y)[k]? = if k = i then some y else if k = j then some x else L[k]? := by
  have hi1 := (List.getElem?_eq_some_iff.1 hi).1
  have hj1 := (List.getElem?_eq_some_iff.1 hj).1
  unfold swap
  by_cases h1 : k = i
  · subst h1
    rw [List.getElem?_set_ne (Ne.symm hne), List.getElem?_set_self hi1, if_pos rfl]
  · rw [if_neg h1]
    by_cases h2 : k = j
    · subst h2
      rw [List.getElem?_set_self (by simpa using hj1), if_pos rfl]
    · rw [if_neg h2, List.getElem?_set_ne (Ne.symm h2), List.getElem?_set_ne (Ne.symm h1)]

theorem UpInv.done {L : List (α × Int)} {p : Nat} (h : UpInv lt L p) (hd : p = 0 ∨ ∃ x y, L[p]? = some x ∧ L[(p - 1) / 2]? = some y ∧ ah lt x y = false) : Heap lt L := by
  intro i x y hi hx hy
  by_cases hip : i = p
  · subst hip
    rcases hd with hd | ⟨x', y', hx', hy', hn⟩
    · omega
    · rw [hx] at hx'; rw [hy] at hy'
      injection hx' with e1; injection hy' with e2
      subst e1; subst e2
      exact hn
  · exact h.rest i x y hi hip hx hy

theorem UpInv.step (ho : Ord lt) {L : List (α × Int)} {p : Nat} {x y : α × Int} (h : UpInv lt L p) (hp : 0 < p) (hx : L[p]? = some x) (hy : L[(p - 1) / 2]? = some y) (ha : ah lt x y = true) : UpInv lt (swap L p ((p - 1) / 2) x y) ((p - 1) / 2) := by
  have hne : p ≠ (p - 1) / 2 := by omega
  have hyx : ah lt y x = false := by
    cases hyx : ah lt y x with
    | false => rfl
    | true => have := ah_tr ho ha hyx; rw [ah_irr ho] at this; cases this
  refine ⟨by rw [swap_length]; have := h.le; omega, fun i u v hi hip hu hv => ?_, fun i u v hq hi hpar hu hv => ?_⟩
  · rw [swap_get hx hy hne] at hu hv
    by_cases h1 : i = p
    · subst h1
      rw [if_pos rfl] at hu
      rw [if_neg (by omega), if_pos rfl] at hv
      injection hu with hu; injection hv with hv
      subst hu; subst hv
      exact hyx
    · rw [if_neg h1, if_neg hip] at hu
      by_cases h2 : (i - 1) / 2 = p
      · rw [if_pos h2] at hv
        injection hv with hv
        subst hv
        exact h.over i u y hp hi h2 hu hy
      · rw [if_neg h2] at hv
        by_cases h3 : (i - 1) / 2 = (p - 1) / 2
        · rw [if_pos h3] at hv
          injection hv with hv
          subst hv
          have h4 := h.rest i u y hi h1 hu (by rw [h3]; exact hy)
          exact na_tr ho h4 hyx
        · rw [if_neg h3] at hv
          exact h.rest i u v hi h1 hu hv
  · rw [swap_get hx hy hne] at hu hv
    rw [if_neg (by omega), if_neg (by omega)] at hv
    have hyv := h.rest _ y v hq (Ne.symm hne) hy hv
    by_cases h1 : i = p
    · subst h1
      rw [if_pos rfl] at hu
      injection hu with hu
      subst hu
      exact hyv
    · rw [if_neg h1, if_neg (by omega)] at hu
      exact na_tr ho (h.rest i u y hi h1 hu (by rw [hpar]; exact hy)) hyv

/-- at the bottom -/
theorem DownInv.end_ {L : List (α × Int)} {p : Nat} (h : DownInv lt L p) (hb : L.length ≤ 2 * p + 1) : Heap lt L := by
  intro i x y hi hx hy
  refine h.rest i x y hi (fun e => ?_) hx hy
  have := (List.getElem?_eq_some_iff.1 hx).1
  omega
/-- The lesser of the two beneath is not ahead. -/
theorem DownInv.done (ho : Ord lt) {L : List (α × Int)} {p : Nat} {x y : α × Int} (h : DownInv lt L p) (hy : L[p]? = some y)
    (hmin : ∀ i u, 0 < i → (i - 1) / 2 = p → L[i]? = some u → ah lt u x = false) (hn : ah lt x y = false) : Heap lt L := by
  intro i u v hi hu hv
  by_cases h1 : (i - 1) / 2 = p
  · rw [h1, hy] at hv
    injection hv with hv
    subst hv
    exact na_tr ho (hmin i u hi h1 hu) hn
  · exact h.rest i u v hi h1 hu hv
theorem DownInv.step (ho : Ord lt) {L : List (α × Int)} {p c : Nat} {x y : α × Int} (h : DownInv lt L p) (hc : 0 < c) (hcp : (c - 1) / 2 = p) (hx : L[c]? = some x) (hy : L[p]? = some y)
    (hmin : ∀ i u, 0 < i → (i - 1) / 2 = p → L[i]? = some u → ah lt u x = false) (ha : ah lt x y = true) : DownInv lt (swap L c p x y) c := by
  have hne : c ≠ p := by omega
  have hyx : ah lt y x = false := by
    cases hyx : ah lt y x with
    | false => rfl
    | true => have := ah_tr ho ha hyx; rw [ah_irr ho] at this; cases this
  refine ⟨fun i u v hi hip hu hv => ?_, fun i u v hq hi hpar hu hv => ?_⟩
  · rw [swap_get hx hy hne] at hu hv
    rw [if_neg hip] at hv
    by_cases h2 : (i - 1) / 2 = p
    · rw [if_pos h2] at hv
      injection hv with hv
      subst hv
      by_cases h1 : i = c
      · rw [if_pos h1] at hu
        injection hu with hu
        subst hu
        exact hyx
      · rw [if_neg h1, if_neg (by omega)] at hu
        exact hmin i u hi h2 hu
    · rw [if_neg h2] at hv
      by_cases h1 : i = p
      · subst h1
        rw [if_neg (Ne.symm hne), if_pos rfl] at hu
        injection hu with hu
        subst hu
        exact h.under c x v (by omega) hc hcp hx hv
      · rw [if_neg (by intro e; subst e; omega), if_neg h1] at hu
        exact h.rest i u v hi h2 hu hv
  · rw [swap_get hx hy hne] at hu hv
    rw [hcp, if_neg (Ne.symm hne), if_pos rfl] at hv
    rw [if_neg (by omega), if_neg (by omega)] at hu
    injection hv with hv
    subst hv
    exact h.rest i u x hi (by omega) hu (by rw [hpar]; exact hx)

/-- The first of a heap: none is ahead of it. -/
theorem Heap.first (ho : Ord lt) {L : List (α × Int)} (h : Heap lt L) {x : α × Int} (hx : L[0]? = some x) : ∀ (n i : Nat) (u : α × Int), i < n → L[i]? = some u → ah lt u x = false
  | 0, _, _, hn, _ => by omega
  | n + 1, i, u, hn, hu => by
    by_cases h0 : i = 0
    · subst h0
      rw [hx] at hu
      injection hu with hu
      subst hu
      exact ah_irr ho _
    · have hi := (List.getElem?_eq_some_iff.1 hu).1
      have hpl : (i - 1) / 2 < L.length := by omega
      exact na_tr ho (h i u _ (by omega) hu (List.getElem?_eq_getElem hpl)) (Heap.first ho h hx n ((i - 1) / 2) _ (by omega) (List.getElem?_eq_getElem hpl))

/-! ### Sorted lists -/

/-- A thing laid behind all that it is not before. -/
def put (lt : α → α → Bool) : List α → α → List α
  | [], x => [x]
  | y :: l, x => if lt x y then x :: y :: l else y :: put lt l x
/-- The same of entries. -/
def putE (lt : α → α → Bool) : List (α × Int) → α × Int → List (α × Int)
  | [], x => [x]
  | y :: l, x => if lt x.1 y.1 then x :: y :: l else y :: putE lt l x
theorem putE_fst (l : List (α × Int)) (x : α × Int) : (putE lt l x).map Prod.fst = put lt (l.map Prod.fst) x.1 := by
  induction l with
  | nil => rfl
  | cons y l ih =>
    simp only [putE, List.map_cons, put]
    split
    · rfl
    · rw [List.map_cons, ih]
theorem put_length (l : List α) (x : α) : (put lt l x).length = l.length + 1 := by
  induction l with
  | nil => rfl
  | cons y l ih => simp only [put]; split <;> simp [ih]
theorem putE_perm (l : List (α × Int)) (x : α × Int) : (putE lt l x).Perm (x :: l) := by
  induction l with
  | nil => exact List.Perm.refl _
  | cons y l ih =>
    simp only [putE]
    split
    · exact List.Perm.refl _
    · exact (List.Perm.cons y ih).trans (List.Perm.swap x y l)
def SortedE (lt : α → α → Bool) (l : List (α × Int)) : Prop := l.Pairwise fun a b => ah lt a b = true
theorem putE_sorted (ho : Ord lt) {l : List (α × Int)} {x : α × Int} (hs : SortedE lt l) (ht : ∀ y ∈ l, y.2 < x.2) : SortedE lt (putE lt l x) := by
  induction l with
  | nil => simp [putE, SortedE]
  | cons y l ih =>
    have h1 := List.pairwise_cons.1 hs
    simp only [putE]
    split
    · rename_i hxy
      have hax : ah lt x y = true := by simp [ah, hxy]
      refine List.pairwise_cons.2 ⟨fun z hz => ?_, hs⟩
      rcases List.mem_cons.1 hz with rfl | hz
      · exact hax
      · exact ah_tr ho hax (h1.1 z hz)
    · rename_i hxy
      have hxy' : lt x.1 y.1 = false := by simpa using hxy
      refine List.pairwise_cons.2 ⟨fun z hz => ?_, ih h1.2 fun z hz => ht z (by simp [hz])⟩
      rcases List.mem_cons.1 ((putE_perm l x).mem_iff.1 hz) with rfl | hz
      · have := ht y (by simp)
        simp [ah, hxy', this]
      · exact h1.1 z hz

/-- What a heap holds, in its order; N: how many turns there were. -/
structure Holds (lt : α → α → Bool) (L : List (α × Int)) (S : List α) (N : Nat) : Prop where
  heap : Heap lt L
  ex : ∃ E, L.Perm E ∧ SortedE lt E ∧ S = E.map Prod.fst ∧ ∀ y ∈ E, y.2 < (N : Int)

theorem Holds.length {L : List (α × Int)} {S : List α} {N : Nat} (h : Holds lt L S N) : S.length = L.length := by
  obtain ⟨E, h1, _, h3, _⟩ := h.ex
  rw [h3, List.length_map, h1.length_eq]
theorem Holds.nil (lt : α → α → Bool) (N : Nat) : Holds lt [] [] N := ⟨fun i x y _ h => by simp at h, [], List.Perm.refl _, List.Pairwise.nil, rfl, by simp⟩
/-- Ahead of the sifting up. -/
theorem UpInv.push {L : List (α × Int)} {S : List α} {N : Nat} (h : Holds lt L S N) (x : α × Int) : UpInv lt (L ++ [x]) L.length := by
  refine ⟨by simp, fun i u v hi hne hu hv => ?_, fun i u v _ hi hpar hu _ => ?_⟩
  · have h1 := (List.getElem?_eq_some_iff.1 hu).1
    simp at h1
    rw [List.getElem?_append_left (by omega)] at hu hv
    exact h.heap i u v hi hu hv
  · have h1 := (List.getElem?_eq_some_iff.1 hu).1
    simp at h1
    omega
theorem Holds.push (ho : Ord lt) {L L' : List (α × Int)} {S : List α} {N : Nat} (h : Holds lt L S N) {x : α} (hp : L'.Perm (L ++ [(x, (N : Int))])) (hh : Heap lt L') : Holds lt L' (put lt S x) (N + 1) := by
  obtain ⟨E, h1, h2, h3, h4⟩ := h.ex
  refine ⟨hh, putE lt E (x, (N : Int)), ?_, putE_sorted ho h2 h4, by rw [h3, putE_fst], fun y hy => ?_⟩
  · refine hp.trans (List.perm_append_singleton _ _ |>.trans ?_)
    exact (List.Perm.cons _ h1).trans (putE_perm E _).symm
  · rcases List.mem_cons.1 ((putE_perm E _).mem_iff.1 hy) with rfl | hy
    · simp only; omega
    · have := h4 y hy; omega
/-- The first entry is what is told first. -/
theorem Holds.head (ho : Ord lt) {L : List (α × Int)} {S : List α} {N : Nat} {e : α × Int} (h : Holds lt L S N) (he : L[0]? = some e) : ∃ S', S = e.1 :: S' ∧ ∃ E, L.Perm (e :: E) ∧ SortedE lt (e :: E) ∧ S' = E.map Prod.fst ∧ ∀ y ∈ e :: E, y.2 < (N : Int) := by
  obtain ⟨E, h1, h2, h3, h4⟩ := h.ex
  cases E with
  | nil =>
    have := h1.length_eq
    have hl := (List.getElem?_eq_some_iff.1 he).1
    simp at this
    subst this
    simp at hl
  | cons f E =>
    have hmem : e ∈ f :: E := h1.mem_iff.1 (List.mem_of_getElem? he)
    have hef : e = f := by
      rcases List.mem_cons.1 hmem with hm | hm
      · exact hm
      · have hfe := (List.pairwise_cons.1 h2).1 e hm
        have hf : f ∈ L := h1.mem_iff.2 (by simp)
        obtain ⟨i, hi, hfi⟩ := List.getElem_of_mem hf
        have := Heap.first ho h.heap he (i + 1) i f (by omega) (by rw [List.getElem?_eq_getElem hi, hfi])
        rw [hfe] at this
        cases this
    subst hef
    exact ⟨E.map Prod.fst, by rw [h3]; rfl, E, h1, h2, rfl, h4⟩
/-- The last laid over the first. -/
def popped (L : List (α × Int)) (l : α × Int) : List (α × Int) := (L.set 0 l).take (L.length - 1)
theorem popped_length (L : List (α × Int)) (l : α × Int) : (popped L l).length = L.length - 1 := by simp [popped]
theorem popped_perm {L : List (α × Int)} {e l : α × Int} (he : L[0]? = some e) (hl : L[L.length - 1]? = some l) : L.Perm (e :: popped L l) := by
  match L, he with
  | a :: M, he =>
    simp at he
    subst he
    unfold popped
    simp only [List.set_cons_zero, List.length_cons, Nat.add_sub_cancel]
    refine List.Perm.cons _ ?_
    rcases List.eq_nil_or_concat M with rfl | ⟨M', b, rfl⟩
    · simp
    · simp at hl
      subst hl
      simp
theorem DownInv.pop {L : List (α × Int)} (h : Heap lt L) (l : α × Int) : DownInv lt (popped L l) 0 := by
  refine ⟨fun i u v hi hne hu hv => ?_, fun _ _ _ h0 => by omega⟩
  have h1 := (List.getElem?_eq_some_iff.1 hu).1
  rw [popped_length] at h1
  unfold popped at hu hv
  rw [List.getElem?_take, if_pos (by omega), List.getElem?_set_ne (by omega)] at hu hv
  exact h i u v hi hu hv
theorem Holds.pop (ho : Ord lt) {L L' : List (α × Int)} {S : List α} {N : Nat} {e l : α × Int} (h : Holds lt L S N) (he : L[0]? = some e) (hl : L[L.length - 1]? = some l) (hp : L'.Perm (popped L l)) (hh : Heap lt L') : ∃ S', S = e.1 :: S' ∧ Holds lt L' S' N := by
  obtain ⟨S', h1, E, h2, h3, h4, h5⟩ := h.head ho he
  refine ⟨S', h1, hh, E, ?_, (List.pairwise_cons.1 h3).2, h4, fun y hy => h5 y (by simp [hy])⟩
  exact hp.trans (List.Perm.cons_inv ((popped_perm he hl).symm.trans h2))
end
end Hp
end Go.Proofs.Ytpnigekkbmanlaa
