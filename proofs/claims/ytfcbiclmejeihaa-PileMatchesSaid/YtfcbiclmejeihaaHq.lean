/- Lists laid thing by thing into the order: sorted, stable. No program in sight but the events' names. -/
import Derived.Test.YtfcbiclmejeihaaLb
import Derived.Test.YtfcbiclmejeihaaHp
namespace Go.Proofs.Ytfcbiclmejeihaa
open Hp Sx

theorem Sx.Room.bytes {n b b' : Nat} (h : Room n b) (hb : b' ≤ b) : Room n b' := ⟨h.1, Nat.le_trans (Nat.mul_le_mul_left _ hb) h.2⟩
theorem nlt_ord : Ord nlt := by
  refine ⟨fun a => ?_, fun a b c h1 h2 => ?_, fun a b c h1 h2 => ?_⟩
  · simp [nlt]
  · simp only [nlt, Bool.or_eq_true, Bool.and_eq_true, decide_eq_true_eq] at *
    omega
  · simp only [nlt, Bool.or_eq_false_iff, Bool.and_eq_false_iff, decide_eq_false_iff_not] at *
    omega
theorem elt_ord : Ord elt := ⟨fun _ => nlt_ord.irr _, fun _ _ _ => nlt_ord.tr _ _ _, fun _ _ _ => nlt_ord.ev _ _ _⟩

section
variable {α : Type} {lt : α → α → Bool}
theorem foldl_putE_fst : ∀ (l acc : List (α × Int)), (l.foldl (putE lt) acc).map Prod.fst = (l.map Prod.fst).foldl (put lt) (acc.map Prod.fst)
  | [], _ => rfl
  | x :: l, acc => by rw [List.foldl_cons, foldl_putE_fst l, putE_fst]; rfl
theorem foldl_putE_perm : ∀ (l acc : List (α × Int)), (l.foldl (putE lt) acc).Perm (acc ++ l)
  | [], acc => by rw [List.append_nil]; exact List.Perm.refl _
  | x :: l, acc => by
    rw [List.foldl_cons]
    refine (foldl_putE_perm l _).trans ?_
    refine ((putE_perm acc x).append_right l).trans ?_
    exact List.perm_middle.symm
theorem foldl_putE_sorted (ho : Ord lt) : ∀ (l acc : List (α × Int)), SortedE lt acc → (∀ y ∈ acc, ∀ x ∈ l, y.2 < x.2) → l.Pairwise (fun a b => a.2 < b.2) → SortedE lt (l.foldl (putE lt) acc)
  | [], acc, h, _, _ => h
  | x :: l, acc, h, hb, hp => by
    rw [List.foldl_cons]
    have hp' := List.pairwise_cons.1 hp
    refine foldl_putE_sorted ho l _ (putE_sorted ho h fun y hy => hb y hy x (by simp)) (fun y hy z hz => ?_) hp'.2
    rcases List.mem_cons.1 ((putE_perm acc x).mem_iff.1 hy) with rfl | hy
    · exact hp'.1 z hz
    · exact hb y hy z (by simp [hz])
theorem put_perm (l : List α) (x : α) : (put lt l x).Perm (x :: l) := by
  induction l with
  | nil => exact List.Perm.refl _
  | cons y l ih =>
    simp only [put]
    split
    · exact List.Perm.refl _
    · exact (List.Perm.cons y ih).trans (List.Perm.swap x y l)
theorem foldl_put_perm : ∀ (l acc : List α), (l.foldl (put lt) acc).Perm (acc ++ l)
  | [], acc => by rw [List.append_nil]; exact List.Perm.refl _
  | x :: l, acc => by
    rw [List.foldl_cons]
    refine (foldl_put_perm l _).trans ?_
    refine ((put_perm acc x).append_right l).trans ?_
    exact List.perm_middle.symm
end

/-- The things tell their places. -/
def Told (ys : List Ev) : Prop := ∀ (i : Nat) (x : Ev), ys[i]? = some x → x.ty = (i : Nat)
theorem told_mark (l : List Ev) : Told (mark l) := fun _ _ h => mark_ty h
def tag (x : Ev) : Ev × Int := (x, x.ty)
theorem told_pair {ys : List Ev} (h : Told ys) : (ys.map tag).Pairwise (fun a b => a.2 < b.2) := by
  rw [List.pairwise_iff_getElem]
  intro i j hi hj hij
  simp only [List.length_map] at hi hj
  simp only [List.getElem_map, tag]
  have h1 := h i _ (List.getElem?_eq_getElem hi)
  have h2 := h j _ (List.getElem?_eq_getElem hj)
  omega

theorem stab_of {S ys : List Ev} {T : List (Ev × Int)} (hy : Told ys) (hS : S = T.map Prod.fst) (hp : T.Perm (ys.map tag)) (hs : SortedE elt T) : Stab S ys := by
  have hT : ∀ e ∈ T, e.2 = e.1.ty ∧ ∃ k : Nat, e.1.ty = (k : Nat) ∧ ys[k]? = some e.1 := fun e he => by
    obtain ⟨x, hx, rfl⟩ := List.mem_map.1 (hp.mem_iff.1 he)
    obtain ⟨k, hk⟩ := List.mem_iff_getElem?.1 hx
    exact ⟨rfl, k, hy k x hk, hk⟩
  have hne : T.Pairwise fun a b => a.2 ≠ b.2 := by
    refine (hp.symm.pairwise (R := fun a b => a.2 ≠ b.2) ((told_pair hy).imp fun h => by omega) fun h => Ne.symm h)
  refine ⟨by rw [hS, List.length_map, hp.length_eq, List.length_map], fun i x hx => ?_, fun i j x y hij hx hy' => ?_, fun i x y hx hy' => ?_⟩
  · subst hS
    have hm := List.mem_iff_getElem?.2 ⟨i, hx⟩
    obtain ⟨e, he, rfl⟩ := List.mem_map.1 hm
    exact (hT e he).2
  · subst hS
    simp only [List.getElem?_map, Option.map_eq_some_iff] at hx hy'
    obtain ⟨e, he, rfl⟩ := hx
    obtain ⟨f, hf, rfl⟩ := hy'
    obtain ⟨hi, rfl⟩ := List.getElem?_eq_some_iff.1 he
    obtain ⟨hj, rfl⟩ := List.getElem?_eq_some_iff.1 hf
    have := List.pairwise_iff_getElem.1 hne i j hi hj hij
    rw [(hT _ (List.getElem_mem hi)).1, (hT _ (List.getElem_mem hj)).1] at this
    exact this
  · subst hS
    simp only [List.getElem?_map, Option.map_eq_some_iff] at hx hy'
    obtain ⟨e, he, rfl⟩ := hx
    obtain ⟨f, hf, rfl⟩ := hy'
    obtain ⟨hi, rfl⟩ := List.getElem?_eq_some_iff.1 he
    obtain ⟨hj, rfl⟩ := List.getElem?_eq_some_iff.1 hf
    have ha := List.pairwise_iff_getElem.1 hs i (i + 1) hi hj (by omega)
    simp only [ah, Bool.or_eq_true, Bool.and_eq_true, Bool.not_eq_true', decide_eq_true_eq] at ha
    rw [(hT _ (List.getElem_mem hi)).1, (hT _ (List.getElem_mem hj)).1] at ha
    rcases ha with ha | ⟨ha, hlt⟩
    · exact ⟨elt_ord.asymm ha, fun h => by rw [ha] at h; cases h⟩
    · exact ⟨ha, fun _ => by omega⟩

theorem sorted_stab {ys : List Ev} (h : Told ys) : Stab (ys.foldl (put elt) []) ys := by
  refine stab_of (T := (ys.map tag).foldl (putE elt) []) h ?_ (by simpa using foldl_putE_perm (lt := elt) (ys.map tag) []) (foldl_putE_sorted elt_ord _ _ List.Pairwise.nil (by simp) (told_pair h))
  rw [foldl_putE_fst, List.map_map]
  have : (Prod.fst ∘ tag : Ev → Ev) = id := rfl
  rw [this, List.map_id]
  rfl
end Go.Proofs.Ytfcbiclmejeihaa
