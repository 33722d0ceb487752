/- Common laws: lists, putting, a few operations. No conditions. -/
import Derived.Test.YtpnigekkbmanlaaApib
import Derived.Test.YtpnigekkbmanlaaHp
import Derived.Laws.OwnMore
import Derived.Laws.Pointers
namespace Go.Proofs.Ytpnigekkbmanlaa
open Hp Sx
theorem ev_len (x : Ev) : x.cells.length = 11 := rfl
theorem ev_one (x : Ev) : x.cells.all Value.oneCell' = true := rfl
/-- the list, each with its place -/
def encB (b : Bool) : List Value := [.bool b]
theorem encB_len (b : Bool) : (encB b).length = 1 := rfl
theorem fl_replicate (b : Bool) : ∀ n : Nat, fl encB (List.replicate n b) = List.replicate n (.bool b)
  | 0 => rfl
  | n + 1 => by rw [List.replicate_succ, List.replicate_succ, fl_cons, fl_replicate b n]; rfl

theorem Sx.Room.bytes {n b b' : Nat} (h : Room n b) (hb : b' ≤ b) : Room n b' := ⟨h.1, Nat.le_trans (Nat.mul_le_mul_left _ hb) h.2⟩
theorem nlt_ord : Ord nlt := by
  refine ⟨fun a => ?_, fun a b c h1 h2 => ?_, fun a b c h1 h2 => ?_⟩
  · simp [nlt]
  · simp only [nlt, Bool.or_eq_true, Bool.and_eq_true, decide_eq_true_eq] at *
    omega
  · simp only [nlt, Bool.or_eq_false_iff, Bool.and_eq_false_iff, decide_eq_false_iff_not] at *
    omega
theorem elt_ord : Ord elt := ⟨fun _ => nlt_ord.irr _, fun _ _ _ => nlt_ord.tr _ _ _, fun _ _ _ => nlt_ord.ev _ _ _⟩

section
variable {α : Type} {lt : α → α → Bool}
theorem foldl_putE_fst : ∀ (l acc : List (α × Int)), (l.foldl (putE lt) acc).map Prod.fst = (l.map Prod.fst).foldl (put lt) (acc.map Prod.fst)
  | [], _ => rfl
  | x :: l, acc => by rw [List.foldl_cons, foldl_putE_fst l, putE_fst]; rfl
theorem foldl_putE_perm : ∀ (l acc : List (α × Int)), (l.foldl (putE lt) acc).Perm (acc ++ l)
  | [], acc => by rw [List.append_nil]; exact List.Perm.refl _
  | x :: l, acc => by
    rw [List.foldl_cons]
    refine (foldl_putE_perm l _).trans ?_
    refine ((putE_perm acc x).append_right l).trans ?_
    exact List.perm_middle.symm
theorem foldl_putE_sorted (ho : Ord lt) : ∀ (l acc : List (α × Int)), SortedE lt acc → (∀ y ∈ acc, ∀ x ∈ l, y.2 < x.2) → l.Pairwise (fun a b => a.2 < b.2) → SortedE lt (l.foldl (putE lt) acc)
  | [], acc, h, _, _ => h
  | x :: l, acc, h, hb, hp => by
    rw [List.foldl_cons]
    have hp' := List.pairwise_cons.1 hp
    refine foldl_putE_sorted ho l _ (putE_sorted ho h fun y hy => hb y hy x (by simp)) (fun y hy z hz => ?_) hp'.2
    rcases List.mem_cons.1 ((putE_perm acc x).mem_iff.1 hy) with rfl | hy
    · exact hp'.1 z hz
    · exact hb y hy z (by simp [hz])
theorem put_perm (l : List α) (x : α) : (put lt l x).Perm (x :: l) := by
  induction l with
  | nil => exact List.Perm.refl _
  | cons y l ih =>
    simp only [put]
    split
    · exact List.Perm.refl _
    · exact (List.Perm.cons y ih).trans (List.Perm.swap x y l)
theorem foldl_put_perm : ∀ (l acc : List α), (l.foldl (put lt) acc).Perm (acc ++ l)
  | [], acc => by rw [List.append_nil]; exact List.Perm.refl _
  | x :: l, acc => by
    rw [List.foldl_cons]
    refine (foldl_put_perm l _).trans ?_
    refine ((put_perm acc x).append_right l).trans ?_
    exact List.perm_middle.symm
end

section
variable {dr : Bool} {P : Program} {ops : Array Oper} {W : List Nat} {Q : Fr → World → Prop} {k : Nat} {rest : List Oper} {σ : Fr} {C : World → Prop} {d : Nat} {ty : TypeId} {pos : String} {after : Array Edge} {guard : Option (Nat × Bool)}
theorem x_eqlP {t t' e : TypeId} {ad : Addr} {x y : Operand} (hu : P.underlying t = some (.pointer e)) (hw : wantS ops σ ⟨some d, .binOp .eql t x y t', ty, pos, after, guard⟩ = true) (hx : ev σ x = .pointer (some ad)) (hy : ev σ y = .pointer none)
    (h : xw dr P ops W Q (k + 1) rest (upd σ d (.bool false)) C) : xw dr P ops W Q k (⟨some d, .binOp .eql t x y t', ty, pos, after, guard⟩ :: rest) σ C :=
  x_p hw rfl (fun w => by
    have e3 : eqGuard .eql t x y (.pointer (some ad)) (.pointer none) = pure () := rfl
    have hp : P.underlying t = some (.pointer (P.pointee t)) := by simp [Program.pointee, hu]
    simp only [execOp, hx, hy, e3, Sem.run_bind, Sem.run_pure, Result.andThen_ok, run_eql_pointer_nil w t (some ad) hp]
    rfl) h
end
theorem nthE {α : Type} {L : List α} {i : Nat} (h : i < L.length) : ∃ x, L[i]? = some x := ⟨_, List.getElem?_eq_getElem h⟩
theorem take_succ' {α : Type} {l : List α} {i : Nat} {x : α} (h : l[i]? = some x) : l.take (i + 1) = l.take i ++ [x] := by rw [List.take_add_one, h]; rfl
theorem drop_cons' {α : Type} {l : List α} {i : Nat} {x : α} (h : l[i]? = some x) : l.drop i = x :: l.drop (i + 1) := by
  obtain ⟨hi, rfl⟩ := List.getElem?_eq_some_iff.1 h
  exact List.drop_eq_getElem_cons hi
theorem foldl_take_succ {α β : Type} {f : β → α → β} {b : β} {l : List α} {i : Nat} {x : α} (h : l[i]? = some x) : (l.take (i + 1)).foldl f b = f ((l.take i).foldl f b) x := by
  rw [take_succ' h, List.foldl_append]; rfl
theorem len_foldl_put {α : Type} (lt : α → α → Bool) : ∀ (l acc : List α), (l.foldl (put lt) acc).length = acc.length + l.length
  | [], _ => rfl
  | x :: l, acc => by rw [List.foldl_cons, len_foldl_put lt l, put_length, List.length_cons]; omega
section
variable {dr : Bool} {P : Program} {ops : Array Oper} {W : List Nat} {Q : Fr → World → Prop} {k : Nat} {rest : List Oper} {σ : Fr} {C : World → Prop} {d : Nat} {ty : TypeId} {pos : String} {after : Array Edge} {guard : Option (Nat × Bool)}
theorem x_cutFrom {t n c s : Nat} (j : Nat) {kd : IntKind} {i : Int} {a : Option Addr} {x y : Operand} (hw : wantS ops σ ⟨some d, .slice t x (some y) none none, ty, pos, after, guard⟩ = true) (hx : ev σ x = .slice a n c) (hy : ev σ y = .int kd i)
    (hs : elemSz P t = some s) (hi : i = (j : Nat)) (hj : j ≤ n) (h : xw dr P ops W Q (k + 1) rest (upd σ d (.slice (if c = j then a else a.map (·.add (j * s))) (n - j) (c - j))) C) : xw dr P ops W Q k (⟨some d, .slice t x (some y) none none, ty, pos, after, guard⟩ :: rest) σ C := by
  obtain ⟨e, hu, he⟩ := elemSz_parts hs
  subst hi
  refine x_p (v := .slice (if c = j then a else a.map (·.add (j * s))) (n - j) (c - j)) hw rfl (fun w => ?_) h
  simp [execOp, Instr.sliceAt, run_underlying hu, Instr.slice, hx, hy, Instr.sliceBounds, Instr.sliceBound, asIntOf, hj, run_szT he]
end
section
variable {w : World} {sz n c : Nat} {a : Option Addr} {xs : List Value}
theorem Sx.Rd.cutTo (h : Rd w sz (.slice a n c) n xs) {j : Nat} (hj : j ≤ n) : Rd w sz (.slice a j c) j (xs.take (j * sz)) := by
  obtain ⟨h1, a', c', he, h2⟩ := h
  simp only [Value.slice.injEq] at he
  obtain ⟨rfl, _, rfl⟩ := he
  have hle : j * sz ≤ n * sz := Nat.mul_le_mul_right _ hj
  refine ⟨by rw [List.length_take]; omega, a, c, rfl, fun h0 => ?_⟩
  obtain ⟨b, o, rfl, hb, hc⟩ := h2 (by omega)
  refine ⟨b, o, rfl, hb, fun i v hv => hc i v ?_⟩
  rw [List.getElem?_take] at hv
  split at hv
  · exact hv
  · cases hv
theorem Sx.Rd.cutFrom (h : Rd w sz (.slice a n c) n xs) {j : Nat} (hj : j ≤ n) (hc : n ≤ c) : Rd w sz (.slice (if c = j then a else a.map (·.add (j * sz))) (n - j) (c - j)) (n - j) (xs.drop (j * sz)) := by
  obtain ⟨h1, a', c', he, h2⟩ := h
  simp only [Value.slice.injEq] at he
  obtain ⟨rfl, _, rfl⟩ := he
  refine ⟨by rw [List.length_drop, h1, Nat.sub_mul], _, _, rfl, fun h0 => ?_⟩
  obtain ⟨b, o, rfl, hb, hcell⟩ := h2 (by omega)
  rw [if_neg (by omega)]
  refine ⟨b, o + j * sz, by simp [Addr.add_lit], hb, fun i v hv => ?_⟩
  rw [List.getElem?_drop] at hv
  rw [Nat.add_assoc]
  exact hcell _ v hv
variable {α : Type} {enc : α → List Value}
theorem fl_take (hk : ∀ a, (enc a).length = sz) : ∀ (L : List α) (j : Nat), (fl enc L).take (j * sz) = fl enc (L.take j)
  | [], j => by simp [fl]
  | x :: L, 0 => by simp [fl]
  | x :: L, j + 1 => by
    rw [List.take_succ_cons, fl_cons, fl_cons, ← fl_take hk L j, show (j + 1) * sz = (enc x).length + j * sz by rw [hk, Nat.succ_mul]; omega, List.take_length_add_append]
theorem fl_drop (hk : ∀ a, (enc a).length = sz) : ∀ (L : List α) (j : Nat), (fl enc L).drop (j * sz) = fl enc (L.drop j)
  | [], j => by simp [fl]
  | x :: L, 0 => by simp [fl]
  | x :: L, j + 1 => by
    rw [List.drop_succ_cons, fl_cons, ← fl_drop hk L j, show (j + 1) * sz = (enc x).length + j * sz by rw [hk, Nat.succ_mul]; omega, List.drop_length_add_append]
end

/-! ### Merged -/
theorem own_cap {w : World} {e : TypeId} {sz n c : Nat} {a : Option Addr} {xs : List Value} (h : Own w e sz (.slice a n c) n xs) : n ≤ c := by
  rcases h.2 with ⟨h1, rfl⟩ | ⟨g, cap, rest, h1, _, h2, _⟩
  · omega
  · simp only [Value.slice.injEq] at h1
    omega

section
variable {dr : Bool} {P : Program} {ops : Array Oper} {W : List Nat} {Q : Fr → World → Prop} {k : Nat} {rest : List Oper} {σ : Fr} {C : World → Prop} {d : Nat} {ty : TypeId} {pos : String} {after : Array Edge} {guard : Option (Nat × Bool)}
theorem x_eqlB {t t' : TypeId} {a b : Bool} {x y : Operand} (hu : P.underlying t = some .bool) (hw : wantS ops σ ⟨some d, .binOp .eql t x y t', ty, pos, after, guard⟩ = true) (hx : ev σ x = .bool a) (hy : ev σ y = .bool b)
    (h : xw dr P ops W Q (k + 1) rest (upd σ d (.bool (a == b))) C) : xw dr P ops W Q k (⟨some d, .binOp .eql t x y t', ty, pos, after, guard⟩ :: rest) σ C :=
  x_p hw rfl (fun w => by
    have e3 : eqGuard .eql t x y (.bool a) (.bool b) = pure () := rfl
    simp only [execOp, hx, hy, e3, Sem.run_bind, Sem.run_pure, Result.andThen_ok, run_eql_bool w t a b hu]) h
theorem x_and {kd : IntKind} {t t' : TypeId} {m n : Int} {x y : Operand} (hw : wantS ops σ ⟨some d, .binOp .and t x y t', ty, pos, after, guard⟩ = true) (hx : ev σ x = .int kd m) (hy : ev σ y = .int kd n)
    (h : xw dr P ops W Q (k + 1) rest (upd σ d (.int kd (kd.wrap (BitVec.ofInt kd.bits m &&& BitVec.ofInt kd.bits n).toNat))) C) : xw dr P ops W Q k (⟨some d, .binOp .and t x y t', ty, pos, after, guard⟩ :: rest) σ C :=
  x_p hw rfl (fun w => by
    have e3 : eqGuard .and t x y (.int kd m) (.int kd n) = pure () := rfl
    simp only [execOp, hx, hy, e3, Sem.run_bind, Sem.run_pure, Result.andThen_ok, binOp_and]
    rfl) h
end

section
variable {α : Type} {lt : α → α → Bool}
/-- a rising list -/
def Rising (lt : α → α → Bool) (l : List α) : Prop := l.Pairwise fun a b => lt a b = true
theorem put_comm (ho : Ord lt) {x y : α} (hxy : lt x y = true) : ∀ z : List α, put lt (put lt z x) y = put lt (put lt z y) x := by
  have hyx : lt y x = false := ho.asymm hxy
  intro z
  induction z with
  | nil => simp [put, hxy, hyx]
  | cons a z ih =>
    by_cases h1 : lt x a = true
    · by_cases h2 : lt y a = true
      · simp [put, h1, h2, hxy, hyx]
      · simp [put, h1, h2, hyx]
    · by_cases h2 : lt y a = true
      · exact absurd (ho.tr _ _ _ hxy h2) h1
      · simp [put, h1, h2, ih]
theorem put_comm' (ho : Ord lt) {x y : α} (h : lt x y = true ∨ lt y x = true) (z : List α) : put lt (put lt z x) y = put lt (put lt z y) x := by
  rcases h with h | h
  · exact put_comm ho h z
  · exact (put_comm ho h z).symm
theorem mem_put {z : List α} {x a : α} : a ∈ put lt z x ↔ a = x ∨ a ∈ z := by
  rw [(put_perm z x).mem_iff, List.mem_cons]
theorem put_rising (ho : Ord lt) {x : α} : ∀ {z : List α}, Rising lt z → (∀ a ∈ z, lt x a = true ∨ lt a x = true) → Rising lt (put lt z x)
  | [], _, _ => List.pairwise_cons.2 ⟨by simp, List.Pairwise.nil⟩
  | a :: z, hz, hx => by
    obtain ⟨h1, h2⟩ := List.pairwise_cons.1 hz
    simp only [put]
    by_cases h : lt x a = true
    · rw [if_pos h]
      refine List.pairwise_cons.2 ⟨fun b hb => ?_, hz⟩
      rcases List.mem_cons.1 hb with rfl | hb
      · exact h
      · exact ho.tr _ _ _ h (h1 b hb)
    · rw [if_neg h]
      refine List.pairwise_cons.2 ⟨fun b hb => ?_, put_rising ho h2 fun b hb => hx b (by simp [hb])⟩
      rcases mem_put.1 hb with rfl | hb
      · exact (hx a (by simp)).resolve_left h
      · exact h1 b hb
theorem put_head {x : α} {z : List α} (h : Rising lt (x :: z)) : put lt z x = x :: z := by
  cases z with
  | nil => rfl
  | cons a z => simp [put, (List.pairwise_cons.1 h).1 a (by simp)]
/-- no two of one name -/
def Apart (lt : α → α → Bool) (l : List α) : Prop := l.Pairwise fun a b => lt a b = true ∨ lt b a = true
theorem Apart.perm {l l' : List α} (h : Apart lt l) (hp : l.Perm l') : Apart lt l' := List.Pairwise.perm h hp fun h => h.symm
theorem foldl_rising (ho : Ord lt) : ∀ (l z : List α), Rising lt z → Apart lt l → (∀ x ∈ l, ∀ a ∈ z, lt x a = true ∨ lt a x = true) → Rising lt (l.foldl (put lt) z)
  | [], _, h, _, _ => h
  | x :: l, z, h, ha, hx => by
    obtain ⟨h1, h2⟩ := List.pairwise_cons.1 ha
    rw [List.foldl_cons]
    refine foldl_rising ho l _ (put_rising ho h (hx x (by simp))) h2 fun y hy a ham => ?_
    rcases mem_put.1 ham with rfl | ham
    · exact (h1 y hy).symm
    · exact hx y (by simp [hy]) a ham
theorem apart_rising (ho : Ord lt) {l : List α} (h : Apart lt l) : Rising lt (l.foldl (put lt) []) := foldl_rising ho l [] List.Pairwise.nil h (by simp)
theorem foldl_put_any (ho : Ord lt) {l l' : List α} (h : Apart lt l) (hp : l.Perm l') : l.foldl (put lt) [] = l'.foldl (put lt) [] := by
  have key : ∀ {l l' : List α}, l.Perm l' → Apart lt l → ∀ z : List α, l.foldl (put lt) z = l'.foldl (put lt) z := by
    intro l l' hp
    induction hp with
    | nil => exact fun _ _ => rfl
    | cons x _ ih => exact fun h z => ih (List.pairwise_cons.1 h).2 _
    | swap x y l =>
      intro h z
      have h0 := (List.pairwise_cons.1 h).1 x (by simp)
      simp only [List.foldl_cons]
      rw [put_comm' ho h0]
    | trans p _ ih1 ih2 => exact fun h z => (ih1 h z).trans (ih2 (h.perm p) z)
  exact key hp h []
end

section
variable {dr : Bool} {P : Program} {ops : Array Oper} {W : List Nat} {Q : Fr → World → Prop} {k : Nat} {rest : List Oper} {σ : Fr} {C : World → Prop} {d : Nat} {ty : TypeId} {pos : String} {after : Array Edge} {guard : Option (Nat × Bool)}
theorem x_rem {t t' : TypeId} {m n : Int} {x y : Operand} (hw : wantS ops σ ⟨some d, .binOp .rem t x y t', ty, pos, after, guard⟩ = true) (hx : ev σ x = .int .i64 m) (hy : ev σ y = .int .i64 n) (hn : 0 < n ∧ n ≤ 9223372036854775807)
    (h : xw dr P ops W Q (k + 1) rest (upd σ d (.int .i64 (m.tmod n))) C) : xw dr P ops W Q k (⟨some d, .binOp .rem t x y t', ty, pos, after, guard⟩ :: rest) σ C :=
  x_p hw rfl (fun _ => by
    have h1 : m.tmod n < n := Int.tmod_lt_of_pos m hn.1
    have h2 : -n < m.tmod n := Int.lt_tmod_of_pos m hn.1
    have h3 : n ≠ 0 := by omega
    simp only [execOp, hx, hy, eqGuard_rem, binOp_rem]; simp [Op.intDiv, h3]) h
end
theorem tmod_nat (k n : Nat) : (k : Int).tmod (n : Int) = ((k % n : Nat) : Int) := by
  rw [Int.tmod_eq_emod_of_nonneg (by omega)]
  exact (Int.natCast_emod k n).symm

section
variable {dr : Bool} {P : Program} {ops : Array Oper} {W : List Nat} {Q : Fr → World → Prop} {k : Nat} {rest : List Oper} {σ : Fr} {C : World → Prop}
variable {d : Nat} {ty : TypeId} {pos : String} {after : Array Edge} {guard : Option (Nat × Bool)}
theorem x_neqB {t t' : TypeId} {a b : Bool} {x y : Operand} (hu : P.underlying t = some .bool) (hw : wantS ops σ ⟨some d, .binOp .neq t x y t', ty, pos, after, guard⟩ = true) (hx : ev σ x = .bool a) (hy : ev σ y = .bool b)
    (h : xw dr P ops W Q (k + 1) rest (upd σ d (.bool (!(a == b)))) C) : xw dr P ops W Q k (⟨some d, .binOp .neq t x y t', ty, pos, after, guard⟩ :: rest) σ C :=
  x_p hw rfl (fun w => by
    have e3 : eqGuard .neq t x y (.bool a) (.bool b) = pure () := rfl
    have e4 : (binOp .neq t (.bool a) (.bool b)).run P w = .ok (.bool (!(a == b))) w := by
      have := run_eql_bool w t a b hu
      simp only [binOp] at this ⊢
      simp only [Sem.run_bind, Sem.run_pure, Result.andThen] at this ⊢
      generalize Sem.run P (Op.equal t (.bool a) (.bool b)) w = r at this ⊢
      cases r with
      | ok v w2 =>
        simp only [Result.ok.injEq, Value.bool.injEq] at this ⊢
        obtain ⟨rfl, rfl⟩ := this
        exact ⟨rfl, rfl⟩
      | halt h w2 => cases this
    simp only [execOp, hx, hy, e3, e4, Sem.run_bind, Sem.run_pure, Result.andThen_ok]) h
end

def encI (n : Int) : List Value := [.int .i64 n]
theorem encI_len (n : Int) : (encI n).length = 1 := rfl
end Go.Proofs.Ytpnigekkbmanlaa
