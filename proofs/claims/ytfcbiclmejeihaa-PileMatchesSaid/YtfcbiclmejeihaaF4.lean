/- Parts of slices; the reference's orders; lists merged. No conditions. -/
import Derived.Test.YtfcbiclmejeihaaF3
namespace Go.Proofs.Ytfcbiclmejeihaa
open Sx Hp
section
variable {dr : Bool} {P : Program} {ops : Array Oper} {W : List Nat} {Q : Fr → World → Prop} {k : Nat} {rest : List Oper} {σ : Fr} {C : World → Prop} {d : Nat} {ty : TypeId} {pos : String} {after : Array Edge} {guard : Option (Nat × Bool)}
theorem x_cutFrom {t n c s : Nat} (j : Nat) {kd : IntKind} {i : Int} {a : Option Addr} {x y : Operand} (hw : wantS ops σ ⟨some d, .slice t x (some y) none none, ty, pos, after, guard⟩ = true) (hx : ev σ x = .slice a n c) (hy : ev σ y = .int kd i)
    (hs : elemSz P t = some s) (hi : i = (j : Nat)) (hj : j ≤ n) (h : xw dr P ops W Q (k + 1) rest (upd σ d (.slice (if c = j then a else a.map (·.add (j * s))) (n - j) (c - j))) C) : xw dr P ops W Q k (⟨some d, .slice t x (some y) none none, ty, pos, after, guard⟩ :: rest) σ C := by
  obtain ⟨e, hu, he⟩ := elemSz_parts hs
  subst hi
  refine x_p (v := .slice (if c = j then a else a.map (·.add (j * s))) (n - j) (c - j)) hw rfl (fun w => ?_) h
  simp [execOp, Instr.sliceAt, run_underlying hu, Instr.slice, hx, hy, Instr.sliceBounds, Instr.sliceBound, asIntOf, hj, run_szT he]
end
section
variable {w : World} {sz n c : Nat} {a : Option Addr} {xs : List Value}
theorem Sx.Rd.cutTo (h : Rd w sz (.slice a n c) n xs) {j : Nat} (hj : j ≤ n) : Rd w sz (.slice a j c) j (xs.take (j * sz)) := by
  obtain ⟨h1, a', c', he, h2⟩ := h
  simp only [Value.slice.injEq] at he
  obtain ⟨rfl, _, rfl⟩ := he
  have hle : j * sz ≤ n * sz := Nat.mul_le_mul_right _ hj
  refine ⟨by rw [List.length_take]; omega, a, c, rfl, fun h0 => ?_⟩
  obtain ⟨b, o, rfl, hb, hc⟩ := h2 (by omega)
  refine ⟨b, o, rfl, hb, fun i v hv => hc i v ?_⟩
  rw [List.getElem?_take] at hv
  split at hv
  · exact hv
  · cases hv
theorem Sx.Rd.cutFrom (h : Rd w sz (.slice a n c) n xs) {j : Nat} (hj : j ≤ n) (hc : n ≤ c) : Rd w sz (.slice (if c = j then a else a.map (·.add (j * sz))) (n - j) (c - j)) (n - j) (xs.drop (j * sz)) := by
  obtain ⟨h1, a', c', he, h2⟩ := h
  simp only [Value.slice.injEq] at he
  obtain ⟨rfl, _, rfl⟩ := he
  refine ⟨by rw [List.length_drop, h1, Nat.sub_mul], _, _, rfl, fun h0 => ?_⟩
  obtain ⟨b, o, rfl, hb, hcell⟩ := h2 (by omega)
  rw [if_neg (by omega)]
  refine ⟨b, o + j * sz, by simp [Addr.add_lit], hb, fun i v hv => ?_⟩
  rw [List.getElem?_drop] at hv
  rw [Nat.add_assoc]
  exact hcell _ v hv
variable {α : Type} {enc : α → List Value}
theorem fl_take (hk : ∀ a, (enc a).length = sz) : ∀ (L : List α) (j : Nat), (fl enc L).take (j * sz) = fl enc (L.take j)
  | [], j => by simp [fl]
  | x :: L, 0 => by simp [fl]
  | x :: L, j + 1 => by
    rw [List.take_succ_cons, fl_cons, fl_cons, ← fl_take hk L j, show (j + 1) * sz = (enc x).length + j * sz by rw [hk, Nat.succ_mul]; omega, List.take_length_add_append]
theorem fl_drop (hk : ∀ a, (enc a).length = sz) : ∀ (L : List α) (j : Nat), (fl enc L).drop (j * sz) = fl enc (L.drop j)
  | [], j => by simp [fl]
  | x :: L, 0 => by simp [fl]
  | x :: L, j + 1 => by
    rw [List.drop_succ_cons, fl_cons, ← fl_drop hk L j, show (j + 1) * sz = (enc x).length + j * sz by rw [hk, Nat.succ_mul]; omega, List.drop_length_add_append]
end

/-! ### Merged -/
section
variable {α : Type}
def merge (lt : α → α → Bool) : List α → List α → List α
  | [], b => b
  | x :: a, [] => x :: a
  | x :: a, y :: b => if lt y x then y :: merge lt (x :: a) b else x :: merge lt a (y :: b)
termination_by a b => a.length + b.length
theorem merge_nil_r (lt : α → α → Bool) (a : List α) : merge lt a [] = a := by cases a <;> simp [merge]
theorem merge_nil_l (lt : α → α → Bool) (b : List α) : merge lt [] b = b := by simp [merge]
theorem merge_T {lt : α → α → Bool} {x y : α} {a b : List α} (h : lt y x = true) : merge lt (x :: a) (y :: b) = y :: merge lt (x :: a) b := by rw [merge, if_pos h]
theorem merge_F {lt : α → α → Bool} {x y : α} {a b : List α} (h : lt y x = false) : merge lt (x :: a) (y :: b) = x :: merge lt a (y :: b) := by rw [merge, if_neg (by simp [h])]
variable {lt : α → α → Bool}
theorem merge_map {β : Type} {f : β → α} {ltb : β → β → Bool} : ∀ (m : Nat) (a b : List β), a.length + b.length = m → (∀ x ∈ a, ∀ y ∈ b, ltb y x = lt (f y) (f x)) → (merge ltb a b).map f = merge lt (a.map f) (b.map f)
  | _, [], b, _, _ => by simp [merge]
  | _, x :: a, [], _, _ => by simp [merge]
  | 0, x :: a, y :: b, h, _ => by simp at h
  | m + 1, x :: a, y :: b, h, hl => by
    have hxy := hl x (by simp) y (by simp)
    cases c : ltb y x with
    | true =>
      rw [merge_T c, List.map_cons, merge_map m (x :: a) b (by simp at h ⊢; omega) fun u hu v hv => hl u hu v (by simp [hv])]
      simp only [List.map_cons]
      rw [merge_T (hxy ▸ c)]
    | false =>
      rw [merge_F c, List.map_cons, merge_map m a (y :: b) (by simp at h ⊢; omega) fun u hu v hv => hl u (by simp [hu]) v hv]
      simp only [List.map_cons]
      rw [merge_F (hxy ▸ c)]
theorem merge_perm : ∀ (m : Nat) (a b : List α), a.length + b.length = m → (merge lt a b).Perm (a ++ b)
  | _, [], b, _ => by simp [merge]
  | _, x :: a, [], _ => by simp [merge]
  | 0, x :: a, y :: b, h => by simp at h
  | m + 1, x :: a, y :: b, h => by
    cases c : lt y x with
    | true =>
      rw [merge_T c]
      refine ((merge_perm m (x :: a) b (by simp at h ⊢; omega)).cons y).trans ?_
      exact List.perm_middle.symm
    | false =>
      rw [merge_F c]
      exact (merge_perm m a (y :: b) (by simp at h ⊢; omega)).cons x

/-- the things with their places -/
def tagAt : Nat → List α → List (α × Int)
  | _, [] => []
  | k, x :: l => (x, (k : Nat)) :: tagAt (k + 1) l
theorem tagAt_fst : ∀ (k : Nat) (l : List α), (tagAt k l).map Prod.fst = l
  | _, [] => rfl
  | k, x :: l => by simp [tagAt, tagAt_fst (k + 1) l]
theorem tagAt_mem : ∀ (k : Nat) (l : List α) (e : α × Int), e ∈ tagAt k l → (k : Int) ≤ e.2 ∧ e.2 < ((k + l.length : Nat) : Int)
  | _, [], e, h => by simp [tagAt] at h
  | k, x :: l, e, h => by
    rcases List.mem_cons.1 h with rfl | h
    · simp; omega
    · have := tagAt_mem (k + 1) l e h
      simp at this ⊢
      omega
theorem tagAt_lt : ∀ (k : Nat) (l : List α), (tagAt k l).Pairwise (fun a b => a.2 < b.2)
  | _, [] => List.Pairwise.nil
  | k, x :: l => List.pairwise_cons.2 ⟨fun e h => by have := tagAt_mem (k + 1) l e h; simp at this ⊢; omega, tagAt_lt (k + 1) l⟩
theorem tagAt_append : ∀ (k : Nat) (a b : List α), tagAt k (a ++ b) = tagAt k a ++ tagAt (k + a.length) b
  | k, [], b => by simp [tagAt]
  | k, x :: a, b => by simp [tagAt, tagAt_append (k + 1) a b, Nat.add_comm, Nat.add_left_comm]

/-- merged with the places: of even ones the first list's -/
theorem merge_sortedE (ho : Ord lt) : ∀ (m : Nat) (a b : List (α × Int)), a.length + b.length = m → SortedE lt a → SortedE lt b → (∀ x ∈ a, ∀ y ∈ b, x.2 < y.2) → SortedE lt (merge (fun u v => lt u.1 v.1) a b)
  | _, [], b, _, _, hb, _ => by simpa [merge] using hb
  | _, x :: a, [], _, ha, _, _ => by simpa [merge] using ha
  | 0, x :: a, y :: b, h, _, _, _ => by simp at h
  | m + 1, x :: a, y :: b, h, ha, hb, hab => by
    have ha' := List.pairwise_cons.1 ha
    have hb' := List.pairwise_cons.1 hb
    cases c : lt y.1 x.1 with
    | true =>
      rw [merge_T (lt := fun (u v : α × Int) => lt u.1 v.1) (x := x) (y := y) c]
      refine List.pairwise_cons.2 ⟨fun z hz => ?_, merge_sortedE ho m (x :: a) b (by simp at h ⊢; omega) ha hb'.2 fun u hu v hv => hab u hu v (by simp [hv])⟩
      have hyx : ah lt y x = true := by simp [ah, c]
      rcases List.mem_append.1 ((merge_perm _ _ _ rfl).mem_iff.1 hz) with hz | hz
      · rcases List.mem_cons.1 hz with rfl | hz
        · exact hyx
        · exact ah_tr ho hyx (ha'.1 z hz)
      · exact hb'.1 z hz
    | false =>
      rw [merge_F (lt := fun (u v : α × Int) => lt u.1 v.1) (x := x) (y := y) c]
      refine List.pairwise_cons.2 ⟨fun z hz => ?_, merge_sortedE ho m a (y :: b) (by simp at h ⊢; omega) ha'.2 hb fun u hu v hv => hab u (by simp [hu]) v hv⟩
      have hxy : ah lt x y = true := by
        have := hab x (by simp) y (by simp)
        simp [ah, c, this]
      rcases List.mem_append.1 ((merge_perm _ _ _ rfl).mem_iff.1 hz) with hz | hz
      · exact ha'.1 z hz
      · rcases List.mem_cons.1 hz with rfl | hz
        · exact hxy
        · exact ah_tr ho hxy (hb'.1 z hz)
theorem sortedE_unique (ho : Ord lt) {a b : List (α × Int)} (hp : a.Perm b) (ha : SortedE lt a) (hb : SortedE lt b) : a = b := by
  refine List.Perm.eq_of_pairwise (le := fun x y => ah lt x y = true) (fun x y _ _ h1 h2 => ?_) ha hb hp
  have := ah_tr ho h1 h2
  rw [ah_irr ho] at this
  cases this
theorem foldl_put_tag (k : Nat) (l : List α) : ((tagAt k l).foldl (putE lt) []).map Prod.fst = l.foldl (put lt) [] := by
  rw [foldl_putE_fst, tagAt_fst]; rfl
theorem foldl_tag_sorted (ho : Ord lt) (k : Nat) (l : List α) : SortedE lt ((tagAt k l).foldl (putE lt) []) := foldl_putE_sorted ho _ _ List.Pairwise.nil (by simp) (tagAt_lt k l)
theorem foldl_tag_perm (k : Nat) (l : List α) : ((tagAt k l).foldl (putE lt) []).Perm (tagAt k l) := by simpa using foldl_putE_perm (lt := lt) (tagAt k l) []

theorem merge_put (ho : Ord lt) (a b : List α) : merge lt (a.foldl (put lt) []) (b.foldl (put lt) []) = (a ++ b).foldl (put lt) [] := by
  rw [← foldl_put_tag 0 a, ← foldl_put_tag a.length b, ← foldl_put_tag 0 (a ++ b), ← merge_map (ltb := fun u v => lt u.1 v.1) _ _ _ rfl fun _ _ _ _ => rfl]
  congr 1
  have pa := foldl_tag_perm (lt := lt) 0 a
  have pb := foldl_tag_perm (lt := lt) a.length b
  refine sortedE_unique ho ?_ (merge_sortedE ho _ _ _ rfl (foldl_tag_sorted ho 0 a) (foldl_tag_sorted ho a.length b) fun x hx y hy => ?_) (foldl_tag_sorted ho 0 (a ++ b))
  · refine (merge_perm _ _ _ rfl).trans ((pa.append pb).trans ?_)
    refine List.Perm.trans ?_ (foldl_tag_perm 0 (a ++ b)).symm
    rw [tagAt_append, Nat.zero_add]
  · have h1 := tagAt_mem _ _ _ (pa.mem_iff.1 hx)
    have h2 := tagAt_mem _ _ _ (pb.mem_iff.1 hy)
    omega
end

set_option maxRecDepth 100000 in
theorem ref_name (x y : Nm) (w : World) : Gets Try.prog 56 [x.v, y.v] w fun v w' => v = .bool (nlt x y) ∧ Ext w w' := by
  refine ⟨GoFn.h, calls_of_swp 20 Try.func56 Try.ntmps56 rfl (Nat.le_of_ble_eq_true rfl) ?_⟩
  (repeat (first | refine swp_seq ?_ | refine swp_block ?_)); refine swp_region (by kernel_rfl) ?_
  refine w_boxA (by rfl) (by rfl) (by rfl) ?_; intro b0 w0 e0 u0 h0
  refine w_boxA (by rfl) (by rfl) (by rfl) ?_; intro b1 w1 e1 u1 h1
  replace h0 := h0.at u1
  have u := u0.trans u1
  repeat (first | refine x_move (by rfl) ?_ | refine x_as (by rfl) (by rfl) ?_ | refine x_skip (by rfl) ?_ | refine x_fld (by rfl) (by rfl) FldO.h ?_ | refine w_load (by rfl) (by rfl) (load_one OneT.h (by assumption) (by rfl)) ?_ | refine x_nilck (by rfl) (by rfl) ?_ | refine x_len (by rfl) (by rfl) ElOf.some ?_ | refine x_iface (by rfl) (by rfl) NIf.h ?_ | refine x_ext (by rfl) (by rfl) (by rfl) ?_ | refine x_pickT (by rfl) (by rfl) (by rfl) ?_ | refine x_pickF (by rfl) (by rfl) (by rfl) ?_ | refine x_add (by rfl) (by rfl) (by rfl) (by omega) ?_ | refine x_sub (by rfl) (by rfl) (by rfl) (by omega) ?_ | refine x_lss (by rfl) (by rfl) (by rfl) ?_ | refine x_geq (by rfl) (by rfl) (by rfl) ?_ | refine x_leq (by rfl) (by rfl) (by rfl) ?_ | refine x_gtr (by rfl) (by rfl) (by rfl) ?_ | refine x_eql (by rfl) (by rfl) (by rfl) ?_ | refine x_neq (by rfl) (by rfl) (by rfl) ?_ | refine x_not (by rfl) (by rfl) ?_)
  refine x_nilw ?_
  (repeat (first | refine swp_seq ?_ | refine swp_block ?_)); refine swp_region (by kernel_rfl) ?_
  repeat (first | refine x_move (by rfl) ?_ | refine x_as (by rfl) (by rfl) ?_ | refine x_skip (by rfl) ?_ | refine x_fld (by rfl) (by rfl) FldO.h ?_ | refine w_load (by rfl) (by rfl) (load_one OneT.h (by assumption) (by rfl)) ?_ | refine x_nilck (by rfl) (by rfl) ?_ | refine x_len (by rfl) (by rfl) ElOf.some ?_ | refine x_iface (by rfl) (by rfl) NIf.h ?_ | refine x_ext (by rfl) (by rfl) (by rfl) ?_ | refine x_pickT (by rfl) (by rfl) (by rfl) ?_ | refine x_pickF (by rfl) (by rfl) (by rfl) ?_ | refine x_add (by rfl) (by rfl) (by rfl) (by omega) ?_ | refine x_sub (by rfl) (by rfl) (by rfl) (by omega) ?_ | refine x_lss (by rfl) (by rfl) (by rfl) ?_ | refine x_geq (by rfl) (by rfl) (by rfl) ?_ | refine x_leq (by rfl) (by rfl) (by rfl) ?_ | refine x_gtr (by rfl) (by rfl) (by rfl) ?_ | refine x_eql (by rfl) (by rfl) (by rfl) ?_ | refine x_neq (by rfl) (by rfl) (by rfl) ?_ | refine x_not (by rfl) (by rfl) ?_)
  refine x_nilw ?_
  (repeat (first | refine swp_seq ?_ | refine swp_block ?_))
  refine swp_if (by rfl) (fun hc => ?_) (fun hc => swp_skip ?_)
  · (repeat (first | refine swp_seq ?_ | refine swp_block ?_)); refine swp_region (by kernel_rfl) ?_
    repeat (first | refine x_move (by rfl) ?_ | refine x_as (by rfl) (by rfl) ?_ | refine x_skip (by rfl) ?_ | refine x_fld (by rfl) (by rfl) FldO.h ?_ | refine w_load (by rfl) (by rfl) (load_one OneT.h (by assumption) (by rfl)) ?_ | refine x_nilck (by rfl) (by rfl) ?_ | refine x_len (by rfl) (by rfl) ElOf.some ?_ | refine x_iface (by rfl) (by rfl) NIf.h ?_ | refine x_ext (by rfl) (by rfl) (by rfl) ?_ | refine x_pickT (by rfl) (by rfl) (by rfl) ?_ | refine x_pickF (by rfl) (by rfl) (by rfl) ?_ | refine x_add (by rfl) (by rfl) (by rfl) (by omega) ?_ | refine x_sub (by rfl) (by rfl) (by rfl) (by omega) ?_ | refine x_lss (by rfl) (by rfl) (by rfl) ?_ | refine x_geq (by rfl) (by rfl) (by rfl) ?_ | refine x_leq (by rfl) (by rfl) (by rfl) ?_ | refine x_gtr (by rfl) (by rfl) (by rfl) ?_ | refine x_eql (by rfl) (by rfl) (by rfl) ?_ | refine x_neq (by rfl) (by rfl) (by rfl) ?_ | refine x_not (by rfl) (by rfl) ?_)
    refine x_nilw ?_
    refine swp_ret ?_; (repeat (first | with_reducible refine r_then ?_ | with_reducible refine r_block ?_ | with_reducible refine r_jump ?_))
    exact post1 rfl rfl ⟨_, rfl, by simp [nlt, hc, upd, ev], u⟩
  · (repeat (first | refine swp_seq ?_ | refine swp_block ?_)); refine swp_region (by kernel_rfl) ?_
    repeat (first | refine x_move (by rfl) ?_ | refine x_as (by rfl) (by rfl) ?_ | refine x_skip (by rfl) ?_ | refine x_fld (by rfl) (by rfl) FldO.h ?_ | refine w_load (by rfl) (by rfl) (load_one OneT.h (by assumption) (by rfl)) ?_ | refine x_nilck (by rfl) (by rfl) ?_ | refine x_len (by rfl) (by rfl) ElOf.some ?_ | refine x_iface (by rfl) (by rfl) NIf.h ?_ | refine x_ext (by rfl) (by rfl) (by rfl) ?_ | refine x_pickT (by rfl) (by rfl) (by rfl) ?_ | refine x_pickF (by rfl) (by rfl) (by rfl) ?_ | refine x_add (by rfl) (by rfl) (by rfl) (by omega) ?_ | refine x_sub (by rfl) (by rfl) (by rfl) (by omega) ?_ | refine x_lss (by rfl) (by rfl) (by rfl) ?_ | refine x_geq (by rfl) (by rfl) (by rfl) ?_ | refine x_leq (by rfl) (by rfl) (by rfl) ?_ | refine x_gtr (by rfl) (by rfl) (by rfl) ?_ | refine x_eql (by rfl) (by rfl) (by rfl) ?_ | refine x_neq (by rfl) (by rfl) (by rfl) ?_ | refine x_not (by rfl) (by rfl) ?_)
    refine x_nilw ?_
    refine swp_ret ?_; (repeat (first | with_reducible refine r_then ?_ | with_reducible refine r_block ?_ | with_reducible refine r_jump ?_))
    have hc' : x.ts = y.ts := by omega
    exact post1 rfl rfl ⟨_, rfl, by simp [nlt, hc', upd, ev], u⟩
set_option maxRecDepth 100000 in
theorem ref_event (x y : Ev) (w : World) : Gets Try.prog 47 [x.v, y.v] w fun v w' => v = .bool (elt x y) ∧ Ext w w' := by
  refine ⟨GoFn.h, calls_of_swp 16 Try.func47 Try.ntmps47 rfl (Nat.le_of_ble_eq_true rfl) ?_⟩
  (repeat (first | refine swp_seq ?_ | refine swp_block ?_)); refine swp_region (by kernel_rfl) ?_
  refine w_boxA (by rfl) (by rfl) (by rfl) ?_; intro b0 w0 e0 u0 h0
  refine w_boxA (by rfl) (by rfl) (by rfl) ?_; intro b1 w1 e1 u1 h1
  replace h0 := h0.at u1
  have u := u0.trans u1
  repeat (first | refine x_move (by rfl) ?_ | refine x_as (by rfl) (by rfl) ?_ | refine x_skip (by rfl) ?_ | refine x_fld (by rfl) (by rfl) FldO.h ?_ | refine w_load (by rfl) (by rfl) (load_one OneT.h (by assumption) (by rfl)) ?_ | refine x_nilck (by rfl) (by rfl) ?_ | refine x_len (by rfl) (by rfl) ElOf.some ?_ | refine x_iface (by rfl) (by rfl) NIf.h ?_ | refine x_ext (by rfl) (by rfl) (by rfl) ?_ | refine x_pickT (by rfl) (by rfl) (by rfl) ?_ | refine x_pickF (by rfl) (by rfl) (by rfl) ?_ | refine x_add (by rfl) (by rfl) (by rfl) (by omega) ?_ | refine x_sub (by rfl) (by rfl) (by rfl) (by omega) ?_ | refine x_lss (by rfl) (by rfl) (by rfl) ?_ | refine x_geq (by rfl) (by rfl) (by rfl) ?_ | refine x_leq (by rfl) (by rfl) (by rfl) ?_ | refine x_gtr (by rfl) (by rfl) (by rfl) ?_ | refine x_eql (by rfl) (by rfl) (by rfl) ?_ | refine x_neq (by rfl) (by rfl) (by rfl) ?_ | refine x_not (by rfl) (by rfl) ?_)
  refine x_nilw ?_
  (repeat (first | refine swp_seq ?_ | refine swp_block ?_)); refine swp_region (by kernel_rfl) ?_
  repeat (first | refine x_move (by rfl) ?_ | refine x_as (by rfl) (by rfl) ?_ | refine x_skip (by rfl) ?_ | refine x_fld (by rfl) (by rfl) FldO.h ?_ | refine w_load (by rfl) (by rfl) (load_one OneT.h (by assumption) (by rfl)) ?_ | refine x_nilck (by rfl) (by rfl) ?_ | refine x_len (by rfl) (by rfl) ElOf.some ?_ | refine x_iface (by rfl) (by rfl) NIf.h ?_ | refine x_ext (by rfl) (by rfl) (by rfl) ?_ | refine x_pickT (by rfl) (by rfl) (by rfl) ?_ | refine x_pickF (by rfl) (by rfl) (by rfl) ?_ | refine x_add (by rfl) (by rfl) (by rfl) (by omega) ?_ | refine x_sub (by rfl) (by rfl) (by rfl) (by omega) ?_ | refine x_lss (by rfl) (by rfl) (by rfl) ?_ | refine x_geq (by rfl) (by rfl) (by rfl) ?_ | refine x_leq (by rfl) (by rfl) (by rfl) ?_ | refine x_gtr (by rfl) (by rfl) (by rfl) ?_ | refine x_eql (by rfl) (by rfl) (by rfl) ?_ | refine x_neq (by rfl) (by rfl) (by rfl) ?_ | refine x_not (by rfl) (by rfl) ?_)
  refine x_build (v := x.nm.v) (by rfl) (by rfl) (fun _ => by kernel_rfl) ?_
  repeat (first | refine x_move (by rfl) ?_ | refine x_as (by rfl) (by rfl) ?_ | refine x_skip (by rfl) ?_ | refine x_fld (by rfl) (by rfl) FldO.h ?_ | refine w_load (by rfl) (by rfl) (load_one OneT.h (by assumption) (by rfl)) ?_ | refine x_nilck (by rfl) (by rfl) ?_ | refine x_len (by rfl) (by rfl) ElOf.some ?_ | refine x_iface (by rfl) (by rfl) NIf.h ?_ | refine x_ext (by rfl) (by rfl) (by rfl) ?_ | refine x_pickT (by rfl) (by rfl) (by rfl) ?_ | refine x_pickF (by rfl) (by rfl) (by rfl) ?_ | refine x_add (by rfl) (by rfl) (by rfl) (by omega) ?_ | refine x_sub (by rfl) (by rfl) (by rfl) (by omega) ?_ | refine x_lss (by rfl) (by rfl) (by rfl) ?_ | refine x_geq (by rfl) (by rfl) (by rfl) ?_ | refine x_leq (by rfl) (by rfl) (by rfl) ?_ | refine x_gtr (by rfl) (by rfl) (by rfl) ?_ | refine x_eql (by rfl) (by rfl) (by rfl) ?_ | refine x_neq (by rfl) (by rfl) (by rfl) ?_ | refine x_not (by rfl) (by rfl) ?_)
  refine x_build (v := y.nm.v) (by rfl) (by rfl) (fun _ => by kernel_rfl) ?_
  refine w_call (by rfl) (by rfl) (by rfl) (ref_name x.nm y.nm w1) ?_
  rintro _ w2 ⟨rfl, u2⟩
  repeat (first | refine x_move (by rfl) ?_ | refine x_as (by rfl) (by rfl) ?_ | refine x_skip (by rfl) ?_ | refine x_fld (by rfl) (by rfl) FldO.h ?_ | refine w_load (by rfl) (by rfl) (load_one OneT.h (by assumption) (by rfl)) ?_ | refine x_nilck (by rfl) (by rfl) ?_ | refine x_len (by rfl) (by rfl) ElOf.some ?_ | refine x_iface (by rfl) (by rfl) NIf.h ?_ | refine x_ext (by rfl) (by rfl) (by rfl) ?_ | refine x_pickT (by rfl) (by rfl) (by rfl) ?_ | refine x_pickF (by rfl) (by rfl) (by rfl) ?_ | refine x_add (by rfl) (by rfl) (by rfl) (by omega) ?_ | refine x_sub (by rfl) (by rfl) (by rfl) (by omega) ?_ | refine x_lss (by rfl) (by rfl) (by rfl) ?_ | refine x_geq (by rfl) (by rfl) (by rfl) ?_ | refine x_leq (by rfl) (by rfl) (by rfl) ?_ | refine x_gtr (by rfl) (by rfl) (by rfl) ?_ | refine x_eql (by rfl) (by rfl) (by rfl) ?_ | refine x_neq (by rfl) (by rfl) (by rfl) ?_ | refine x_not (by rfl) (by rfl) ?_)
  refine x_nilw ?_
  refine swp_ret ?_; (repeat (first | with_reducible refine r_then ?_ | with_reducible refine r_block ?_ | with_reducible refine r_jump ?_))
  exact post1 rfl rfl ⟨_, rfl, rfl, u.trans u2⟩
end Go.Proofs.Ytfcbiclmejeihaa
