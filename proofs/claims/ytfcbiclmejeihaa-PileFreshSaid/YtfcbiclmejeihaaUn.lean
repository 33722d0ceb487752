/- Lists of unlike names: laid down in any order they make the same list. No conditions. -/
import Derived.Test.YtfcbiclmejeihaaF4
import Derived.Test.YtfcbiclmejeihaaMEv
namespace Go.Proofs.Ytfcbiclmejeihaa
open Hp Sx

section
variable {α : Type} {lt : α → α → Bool}
/-- a rising list -/
def Rising (lt : α → α → Bool) (l : List α) : Prop := l.Pairwise fun a b => lt a b = true
theorem put_comm (ho : Ord lt) {x y : α} (hxy : lt x y = true) : ∀ z : List α, put lt (put lt z x) y = put lt (put lt z y) x := by
  have hyx : lt y x = false := ho.asymm hxy
  intro z
  induction z with
  | nil => simp [put, hxy, hyx]
  | cons a z ih =>
    by_cases h1 : lt x a = true
    · by_cases h2 : lt y a = true
      · simp [put, h1, h2, hxy, hyx]
      · simp [put, h1, h2, hyx]
    · by_cases h2 : lt y a = true
      · exact absurd (ho.tr _ _ _ hxy h2) h1
      · simp [put, h1, h2, ih]
theorem put_comm' (ho : Ord lt) {x y : α} (h : lt x y = true ∨ lt y x = true) (z : List α) : put lt (put lt z x) y = put lt (put lt z y) x := by
  rcases h with h | h
  · exact put_comm ho h z
  · exact (put_comm ho h z).symm
theorem mem_put {z : List α} {x a : α} : a ∈ put lt z x ↔ a = x ∨ a ∈ z := by
  rw [(put_perm z x).mem_iff, List.mem_cons]
theorem put_rising (ho : Ord lt) {x : α} : ∀ {z : List α}, Rising lt z → (∀ a ∈ z, lt x a = true ∨ lt a x = true) → Rising lt (put lt z x)
  | [], _, _ => List.pairwise_cons.2 ⟨by simp, List.Pairwise.nil⟩
  | a :: z, hz, hx => by
    obtain ⟨h1, h2⟩ := List.pairwise_cons.1 hz
    simp only [put]
    by_cases h : lt x a = true
    · rw [if_pos h]
      refine List.pairwise_cons.2 ⟨fun b hb => ?_, hz⟩
      rcases List.mem_cons.1 hb with rfl | hb
      · exact h
      · exact ho.tr _ _ _ h (h1 b hb)
    · rw [if_neg h]
      refine List.pairwise_cons.2 ⟨fun b hb => ?_, put_rising ho h2 fun b hb => hx b (by simp [hb])⟩
      rcases mem_put.1 hb with rfl | hb
      · exact (hx a (by simp)).resolve_left h
      · exact h1 b hb
theorem put_head {x : α} {z : List α} (h : Rising lt (x :: z)) : put lt z x = x :: z := by
  cases z with
  | nil => rfl
  | cons a z => simp [put, (List.pairwise_cons.1 h).1 a (by simp)]
/-- no two of one name -/
def Apart (lt : α → α → Bool) (l : List α) : Prop := l.Pairwise fun a b => lt a b = true ∨ lt b a = true
theorem Apart.perm {l l' : List α} (h : Apart lt l) (hp : l.Perm l') : Apart lt l' := List.Pairwise.perm h hp fun h => h.symm
theorem foldl_rising (ho : Ord lt) : ∀ (l z : List α), Rising lt z → Apart lt l → (∀ x ∈ l, ∀ a ∈ z, lt x a = true ∨ lt a x = true) → Rising lt (l.foldl (put lt) z)
  | [], _, h, _, _ => h
  | x :: l, z, h, ha, hx => by
    obtain ⟨h1, h2⟩ := List.pairwise_cons.1 ha
    rw [List.foldl_cons]
    refine foldl_rising ho l _ (put_rising ho h (hx x (by simp))) h2 fun y hy a ham => ?_
    rcases mem_put.1 ham with rfl | ham
    · exact (h1 y hy).symm
    · exact hx y (by simp [hy]) a ham
theorem apart_rising (ho : Ord lt) {l : List α} (h : Apart lt l) : Rising lt (l.foldl (put lt) []) := foldl_rising ho l [] List.Pairwise.nil h (by simp)
theorem foldl_put_any (ho : Ord lt) {l l' : List α} (h : Apart lt l) (hp : l.Perm l') : l.foldl (put lt) [] = l'.foldl (put lt) [] := by
  have key : ∀ {l l' : List α}, l.Perm l' → Apart lt l → ∀ z : List α, l.foldl (put lt) z = l'.foldl (put lt) z := by
    intro l l' hp
    induction hp with
    | nil => exact fun _ _ => rfl
    | cons x _ ih => exact fun h z => ih (List.pairwise_cons.1 h).2 _
    | swap x y l =>
      intro h z
      have h0 := (List.pairwise_cons.1 h).1 x (by simp)
      simp only [List.foldl_cons]
      rw [put_comm' ho h0]
    | trans p _ ih1 ih2 => exact fun h z => (ih1 h z).trans (ih2 (h.perm p) z)
  exact key hp h []
end

/-- one name -/
def like (x y : Ev) : Bool := decide (x.ts = y.ts) && decide (x.id = y.id)
theorem like_apart {x y : Ev} (h : like x y = false) : elt x y = true ∨ elt y x = true := by
  have h1 : x.ts ≠ y.ts ∨ x.id ≠ y.id := by
    rcases Decidable.em (x.ts = y.ts) with e | e
    · rcases Decidable.em (x.id = y.id) with e' | e'
      · simp [like, e, e'] at h
      · exact .inr e'
    · exact .inl e
  simp only [elt, nlt, Ev.nm]
  rcases Int.lt_trichotomy x.ts y.ts with a | a | a
  · left; simp [a]
  · rcases Int.lt_trichotomy x.id y.id with b | b | b
    · left; simp [a, b]
    · exact (h1.elim (fun h => h a) fun h => h b).elim
    · right; simp [a, b]
  · right; simp [a]
/-- laid behind, unless its name stands there -/
def uq (U : List Ev) (x : Ev) : List Ev := if U.any (like · x) then U else U ++ [x]
theorem uq_apart {U : List Ev} {x : Ev} (h : Apart elt U) : Apart elt (uq U x) := by
  unfold uq
  split
  · exact h
  · next hn =>
    refine List.pairwise_append.2 ⟨h, List.pairwise_cons.2 ⟨by simp, List.Pairwise.nil⟩, fun a ha b hb => ?_⟩
    obtain rfl := List.mem_singleton.1 hb
    refine like_apart ?_
    cases hl : like a b with
    | false => rfl
    | true => exact absurd (List.any_eq_true.2 ⟨a, ha, hl⟩) hn
theorem uq_length (U : List Ev) (x : Ev) : (uq U x).length ≤ U.length + 1 := by
  unfold uq
  split
  · omega
  · simp
theorem uqs_apart : ∀ (l U : List Ev), Apart elt U → Apart elt (l.foldl uq U)
  | [], _, h => h
  | _ :: l, _, h => uqs_apart l _ (uq_apart h)
theorem uqs_length : ∀ (l U : List Ev), (l.foldl uq U).length ≤ U.length + l.length
  | [], _ => Nat.le_refl _
  | y :: l, V => by
    have := uqs_length l (uq V y)
    have := uq_length V y
    simp only [List.foldl_cons, List.length_cons]
    omega
/-- a thing taken out of its place -/
theorem taken {α : Type} {R out U : List α} {i : Nat} {x : α} (hx : R[i]? = some x) (h : (out ++ R).Perm U) : ((out ++ [x]) ++ (R.take i ++ R.drop (i + 1))).Perm U := by
  refine List.Perm.trans ?_ h
  rw [List.append_assoc]
  refine List.Perm.append_left out ?_
  have e : R = R.take i ++ x :: R.drop (i + 1) := by rw [← drop_cons' hx, List.take_append_drop]
  conv => rhs; rw [e]
  exact (List.perm_middle (a := x) (l₁ := R.take i) (l₂ := R.drop (i + 1))).symm

section
variable {dr : Bool} {P : Program} {ops : Array Oper} {W : List Nat} {Q : Fr → World → Prop} {k : Nat} {rest : List Oper} {σ : Fr} {C : World → Prop} {d : Nat} {ty : TypeId} {pos : String} {after : Array Edge} {guard : Option (Nat × Bool)}
theorem x_rem {t t' : TypeId} {m n : Int} {x y : Operand} (hw : wantS ops σ ⟨some d, .binOp .rem t x y t', ty, pos, after, guard⟩ = true) (hx : ev σ x = .int .i64 m) (hy : ev σ y = .int .i64 n) (hn : 0 < n ∧ n ≤ 9223372036854775807)
    (h : xw dr P ops W Q (k + 1) rest (upd σ d (.int .i64 (m.tmod n))) C) : xw dr P ops W Q k (⟨some d, .binOp .rem t x y t', ty, pos, after, guard⟩ :: rest) σ C :=
  x_p hw rfl (fun _ => by
    have h1 : m.tmod n < n := Int.tmod_lt_of_pos m hn.1
    have h2 : -n < m.tmod n := Int.lt_tmod_of_pos m hn.1
    have h3 : n ≠ 0 := by omega
    simp only [execOp, hx, hy, eqGuard_rem, binOp_rem]; simp [Op.intDiv, h3]) h
end
end Go.Proofs.Ytfcbiclmejeihaa
