/- A pile of Wt: Pop. No conditions but a pile's. -/
import Derived.Test.YtpnigekkbmanlaaPWtb
namespace Go.Proofs.Ytpnigekkbmanlaa.PWt
open Sx Hp

def zE : E := (Wt.zero, 0)

set_option maxRecDepth 100000 in
theorem pop_nil {w : World} {bp : Nat} {sv : Value} {N : Nat} (hp : Pile w bp sv [] N) : Gets Try.prog 53 [.pointer (some ⟨bp, 0, none⟩)] w fun v w' => v = .tuple #[Wt.zero.v, .bool false] ∧ Ext w w' := by
  obtain ⟨L, hP, hH⟩ := hp
  have h0 : L = [] := List.eq_nil_of_length_eq_zero (by rw [← hH.length]; rfl)
  subst h0
  obtain ⟨a, cap, rfl⟩ := hP.own.slice
  refine ⟨GoFn.h, calls_of_swp 61 Try.func53 Try.ntmps53 rfl (Nat.le_of_ble_eq_true rfl) ?_⟩
  (repeat (first | refine swp_seq ?_ | refine swp_block ?_)); refine swp_region (by kernel_rfl) ?_
  refine w_alloc (by rfl) (by rfl) ZeroT.h ?_; intro b2 w2 e2 u2 h2
  repeat (first | refine x_move (by rfl) ?_ | refine x_as (by rfl) (by rfl) ?_ | refine x_skip (by rfl) ?_ | refine x_fld (by rfl) (by rfl) FldO.h ?_ | refine w_load (by rfl) (by rfl) (load_one OneT.h (by assumption) (by rfl)) ?_ | refine x_nilck (by rfl) (by rfl) ?_ | refine x_len (by rfl) (by rfl) ElOf.some ?_ | refine x_iface (by rfl) (by rfl) NIf.h ?_ | refine x_ext (by rfl) (by rfl) (by rfl) ?_ | refine x_pickT (by rfl) (by rfl) (by rfl) ?_ | refine x_pickF (by rfl) (by rfl) (by rfl) ?_ | refine x_add (by rfl) (by rfl) (by rfl) (by omega) ?_ | refine x_sub (by rfl) (by rfl) (by rfl) (by omega) ?_ | refine x_lss (by rfl) (by rfl) (by rfl) ?_ | refine x_geq (by rfl) (by rfl) (by rfl) ?_ | refine x_leq (by rfl) (by rfl) (by rfl) ?_ | refine x_gtr (by rfl) (by rfl) (by rfl) ?_ | refine x_eql (by rfl) (by rfl) (by rfl) ?_ | refine x_neq (by rfl) (by rfl) (by rfl) ?_ | refine x_not (by rfl) (by rfl) ?_)
  refine x_nilw ?_
  (repeat (first | refine swp_seq ?_ | refine swp_block ?_)); refine swp_region (by kernel_rfl) ?_
  refine w_alloc (by rfl) (by rfl) ZeroT.h ?_; intro b4 w4 e4 u4 h4
  refine x_nilw ?_
  replace h2 := h2.at u4
  have u := u2.trans u4
  have hb := (hP.at u).blk
  (repeat (first | refine swp_seq ?_ | refine swp_block ?_)); refine swp_region (by kernel_rfl) ?_
  repeat (first | refine x_move (by rfl) ?_ | refine x_as (by rfl) (by rfl) ?_ | refine x_skip (by rfl) ?_ | refine x_fld (by rfl) (by rfl) FldO.h ?_ | refine w_load (by rfl) (by rfl) (load_one OneT.h (by assumption) (by rfl)) ?_ | refine x_nilck (by rfl) (by rfl) ?_ | refine x_len (by rfl) (by rfl) ElOf.some ?_ | refine x_iface (by rfl) (by rfl) NIf.h ?_ | refine x_ext (by rfl) (by rfl) (by rfl) ?_ | refine x_pickT (by rfl) (by rfl) (by rfl) ?_ | refine x_pickF (by rfl) (by rfl) (by rfl) ?_ | refine x_add (by rfl) (by rfl) (by rfl) (by omega) ?_ | refine x_sub (by rfl) (by rfl) (by rfl) (by omega) ?_ | refine x_lss (by rfl) (by rfl) (by rfl) ?_ | refine x_geq (by rfl) (by rfl) (by rfl) ?_ | refine x_leq (by rfl) (by rfl) (by rfl) ?_ | refine x_gtr (by rfl) (by rfl) (by rfl) ?_ | refine x_eql (by rfl) (by rfl) (by rfl) ?_ | refine x_neq (by rfl) (by rfl) (by rfl) ?_ | refine x_not (by rfl) (by rfl) ?_)
  refine x_nilw ?_
  (repeat (first | refine swp_seq ?_ | refine swp_block ?_))
  refine swp_true (by rfl) ?_
  (repeat (first | refine swp_seq ?_ | refine swp_block ?_)); refine swp_region (by kernel_rfl) ?_
  refine w_load (by rfl) (by rfl) (load_agg (xs := Wt.zero.cells) AggT.h h4 (by rfl) (by rfl)) ?_
  refine w_store (xs := Wt.zero.cells) (by rfl) (by rfl) (by rfl) (by rfl) SzT.h (by rfl) (by rfl) h2 (by simp) ?_
  intro w5 u5 h5 _
  repeat (first | refine x_move (by rfl) ?_ | refine x_as (by rfl) (by rfl) ?_ | refine x_skip (by rfl) ?_ | refine x_fld (by rfl) (by rfl) FldO.h ?_ | refine w_load (by rfl) (by rfl) (load_one OneT.h (by assumption) (by rfl)) ?_ | refine x_nilck (by rfl) (by rfl) ?_ | refine x_len (by rfl) (by rfl) ElOf.some ?_ | refine x_iface (by rfl) (by rfl) NIf.h ?_ | refine x_ext (by rfl) (by rfl) (by rfl) ?_ | refine x_pickT (by rfl) (by rfl) (by rfl) ?_ | refine x_pickF (by rfl) (by rfl) (by rfl) ?_ | refine x_add (by rfl) (by rfl) (by rfl) (by omega) ?_ | refine x_sub (by rfl) (by rfl) (by rfl) (by omega) ?_ | refine x_lss (by rfl) (by rfl) (by rfl) ?_ | refine x_geq (by rfl) (by rfl) (by rfl) ?_ | refine x_leq (by rfl) (by rfl) (by rfl) ?_ | refine x_gtr (by rfl) (by rfl) (by rfl) ?_ | refine x_eql (by rfl) (by rfl) (by rfl) ?_ | refine x_neq (by rfl) (by rfl) (by rfl) ?_ | refine x_not (by rfl) (by rfl) ?_)
  refine x_nilw ?_
  refine swp_ret ?_; (repeat (first | with_reducible refine r_then ?_ | with_reducible refine r_block ?_ | with_reducible refine r_jump ?_))
  refine postCT rfl rfl (load_agg (xs := Wt.zero.cells) AggT.h h5 (by rfl) (by rfl)) rfl ⟨_, rfl, rfl, u.trans' u5 fun b hb e => ?_⟩
  subst e
  exact absurd hb (by omega)

/-- The heap with its last laid over the first, the last written over by nothing. -/
theorem popped_fl {L : List E} (l : E) (hn : 0 < L.length) : fl enE ((L.set 0 l).set (L.length - 1) zE) = fl enE (popped L l) ++ enE zE := by
  have e : (L.set 0 l).set (L.length - 1) zE = popped L l ++ [zE] := by
    rw [List.set_eq_take_append_cons_drop, if_pos (by simp; omega)]
    unfold popped
    congr 1
    rw [List.drop_eq_nil_of_le (by simp; omega)]
  rw [e, fl_append, fl_one]

set_option maxHeartbeats 1000000 in
set_option maxRecDepth 100000 in
theorem pop_cons (ho : Ord wlt) {w : World} {bp : Nat} {sv : Value} {x : Wt} {S : List Wt} {N : Nat} (hp : Pile w bp sv (x :: S) N) (hl : S.length ≤ 2305843009213693950) (hV : ∀ y ∈ x :: S, Apt (foot bp sv) w y) :
    Gets Try.prog 53 [.pointer (some ⟨bp, 0, none⟩)] w fun v w' => v = .tuple #[x.v, .bool true] ∧ ∃ sv', Pile w' bp sv' S N ∧ Upd (foot bp sv) w w' ∧ ∀ b, isIn sv' b → isIn sv b := by
  obtain ⟨L, hP, hH⟩ := hp
  have hlen : L.length = S.length + 1 := by rw [← hH.length]; rfl
  obtain ⟨g, cap, rest, rfl, hg, hc1, hc2, hc3⟩ := hP.own.pos (by omega)
  obtain ⟨e, he⟩ := nth (L := L) (i := 0) (by omega)
  obtain ⟨l, hl'⟩ := nth (L := L) (i := L.length - 1) (by omega)
  obtain ⟨S', hS, _⟩ := hH.head ho he
  have hmem : ∀ u ∈ L, Apt (foot bp (.slice (some ⟨g, 0, none⟩) L.length cap)) w u.1 := fun u hu => hV _ (hH.mem hu)
  injection hS with hx hS
  subst hx; subst hS
  have hbg : bp ≠ g := fun h => hP.ne (by subst h; rfl)
  refine ⟨GoFn.h, calls_of_swp 61 Try.func53 Try.ntmps53 rfl (Nat.le_of_ble_eq_true rfl) ?_⟩
  (repeat (first | refine swp_seq ?_ | refine swp_block ?_)); refine swp_region (by kernel_rfl) ?_
  refine w_alloc (by rfl) (by rfl) ZeroT.h ?_; intro b2 w2 e2 u2 h2
  repeat (first | refine x_move (by rfl) ?_ | refine x_as (by rfl) (by rfl) ?_ | refine x_skip (by rfl) ?_ | refine x_fld (by rfl) (by rfl) FldO.h ?_ | refine w_load (by rfl) (by rfl) (load_one OneT.h (by assumption) (by rfl)) ?_ | refine x_nilck (by rfl) (by rfl) ?_ | refine x_len (by rfl) (by rfl) ElOf.some ?_ | refine x_iface (by rfl) (by rfl) NIf.h ?_ | refine x_ext (by rfl) (by rfl) (by rfl) ?_ | refine x_pickT (by rfl) (by rfl) (by rfl) ?_ | refine x_pickF (by rfl) (by rfl) (by rfl) ?_ | refine x_add (by rfl) (by rfl) (by rfl) (by omega) ?_ | refine x_sub (by rfl) (by rfl) (by rfl) (by omega) ?_ | refine x_lss (by rfl) (by rfl) (by rfl) ?_ | refine x_geq (by rfl) (by rfl) (by rfl) ?_ | refine x_leq (by rfl) (by rfl) (by rfl) ?_ | refine x_gtr (by rfl) (by rfl) (by rfl) ?_ | refine x_eql (by rfl) (by rfl) (by rfl) ?_ | refine x_neq (by rfl) (by rfl) (by rfl) ?_ | refine x_not (by rfl) (by rfl) ?_)
  refine x_nilw ?_
  (repeat (first | refine swp_seq ?_ | refine swp_block ?_)); refine swp_region (by kernel_rfl) ?_
  refine w_alloc (by rfl) (by rfl) ZeroT.h ?_; intro b4 w4 e4 u4 h4
  refine x_nilw ?_
  replace h2 := h2.at u4
  have u := u2.trans u4
  have hb := hP.blk.at u
  replace hg := hg.at u
  (repeat (first | refine swp_seq ?_ | refine swp_block ?_)); refine swp_region (by kernel_rfl) ?_
  repeat (first | refine x_move (by rfl) ?_ | refine x_as (by rfl) (by rfl) ?_ | refine x_skip (by rfl) ?_ | refine x_fld (by rfl) (by rfl) FldO.h ?_ | refine w_load (by rfl) (by rfl) (load_one OneT.h (by assumption) (by rfl)) ?_ | refine x_nilck (by rfl) (by rfl) ?_ | refine x_len (by rfl) (by rfl) ElOf.some ?_ | refine x_iface (by rfl) (by rfl) NIf.h ?_ | refine x_ext (by rfl) (by rfl) (by rfl) ?_ | refine x_pickT (by rfl) (by rfl) (by rfl) ?_ | refine x_pickF (by rfl) (by rfl) (by rfl) ?_ | refine x_add (by rfl) (by rfl) (by rfl) (by omega) ?_ | refine x_sub (by rfl) (by rfl) (by rfl) (by omega) ?_ | refine x_lss (by rfl) (by rfl) (by rfl) ?_ | refine x_geq (by rfl) (by rfl) (by rfl) ?_ | refine x_leq (by rfl) (by rfl) (by rfl) ?_ | refine x_gtr (by rfl) (by rfl) (by rfl) ?_ | refine x_eql (by rfl) (by rfl) (by rfl) ?_ | refine x_neq (by rfl) (by rfl) (by rfl) ?_ | refine x_not (by rfl) (by rfl) ?_)
  refine x_nilw ?_
  (repeat (first | refine swp_seq ?_ | refine swp_block ?_))
  refine swp_if (by rfl) (fun h0 => absurd h0 (by omega)) (fun _ => swp_skip ?_)
  (repeat (first | refine swp_seq ?_ | refine swp_block ?_)); refine swp_region (by kernel_rfl) ?_
  repeat (first | refine x_move (by rfl) ?_ | refine x_as (by rfl) (by rfl) ?_ | refine x_skip (by rfl) ?_ | refine x_fld (by rfl) (by rfl) FldO.h ?_ | refine w_load (by rfl) (by rfl) (load_one OneT.h (by assumption) (by rfl)) ?_ | refine x_nilck (by rfl) (by rfl) ?_ | refine x_len (by rfl) (by rfl) ElOf.some ?_ | refine x_iface (by rfl) (by rfl) NIf.h ?_ | refine x_ext (by rfl) (by rfl) (by rfl) ?_ | refine x_pickT (by rfl) (by rfl) (by rfl) ?_ | refine x_pickF (by rfl) (by rfl) (by rfl) ?_ | refine x_add (by rfl) (by rfl) (by rfl) (by omega) ?_ | refine x_sub (by rfl) (by rfl) (by rfl) (by omega) ?_ | refine x_lss (by rfl) (by rfl) (by rfl) ?_ | refine x_geq (by rfl) (by rfl) (by rfl) ?_ | refine x_leq (by rfl) (by rfl) (by rfl) ?_ | refine x_gtr (by rfl) (by rfl) (by rfl) ?_ | refine x_eql (by rfl) (by rfl) (by rfl) ?_ | refine x_neq (by rfl) (by rfl) (by rfl) ?_ | refine x_not (by rfl) (by rfl) ?_)
  refine x_idx 0 (by rfl) (by rfl) (by rfl) ElSz.h rfl (by omega) ?_
  repeat (first | refine x_move (by rfl) ?_ | refine x_as (by rfl) (by rfl) ?_ | refine x_skip (by rfl) ?_ | refine x_fld (by rfl) (by rfl) FldO.h ?_ | refine w_load (by rfl) (by rfl) (load_one OneT.h (by assumption) (by rfl)) ?_ | refine x_nilck (by rfl) (by rfl) ?_ | refine x_len (by rfl) (by rfl) ElOf.some ?_ | refine x_iface (by rfl) (by rfl) NIf.h ?_ | refine x_ext (by rfl) (by rfl) (by rfl) ?_ | refine x_pickT (by rfl) (by rfl) (by rfl) ?_ | refine x_pickF (by rfl) (by rfl) (by rfl) ?_ | refine x_add (by rfl) (by rfl) (by rfl) (by omega) ?_ | refine x_sub (by rfl) (by rfl) (by rfl) (by omega) ?_ | refine x_lss (by rfl) (by rfl) (by rfl) ?_ | refine x_geq (by rfl) (by rfl) (by rfl) ?_ | refine x_leq (by rfl) (by rfl) (by rfl) ?_ | refine x_gtr (by rfl) (by rfl) (by rfl) ?_ | refine x_eql (by rfl) (by rfl) (by rfl) ?_ | refine x_neq (by rfl) (by rfl) (by rfl) ?_ | refine x_not (by rfl) (by rfl) ?_)
  refine w_load (by rfl) (by rfl) (load_agg (xs := e.1.cells) AggT.h hg (by rw [fl_sub enE_len he (q := 0) (by omega) (by omega)]; rfl) (by rfl)) ?_
  refine w_alloc (by rfl) (by rfl) ZeroT.h ?_; intro b5 w5 e5 u5 h5
  refine w_store (xs := e.1.cells) (by rfl) (by rfl) (by rfl) (by rfl) SzT.h (by rfl) (by rfl) h5 (by simp) ?_
  intro w6 u6 h6 _
  refine x_nilw ?_
  have h6' : Blk w6 b5 82 e.1.cells := h6
  have hl5 := h2.lt; have hlg := hg.lt; have hlb := hb.lt
  replace h2 := (h2.at u5).get u6 (by omega)
  replace hb := (hb.at u5).get u6 (by omega)
  replace hg := (hg.at u5).get u6 (by omega)
  have uA : Upd (foot bp (.slice (some ⟨g, 0, none⟩) L.length cap)) w w6 := ((u.trans u5).trans' u6 (fun b hb h => by subst h; have := u.size; omega)).of _
  clear h5 h4 h6 u6 u5 u4 u2 u
  (repeat (first | refine swp_seq ?_ | refine swp_block ?_)); refine swp_region (by kernel_rfl) ?_
  repeat (first | refine x_move (by rfl) ?_ | refine x_as (by rfl) (by rfl) ?_ | refine x_skip (by rfl) ?_ | refine x_fld (by rfl) (by rfl) FldO.h ?_ | refine w_load (by rfl) (by rfl) (load_one OneT.h (by assumption) (by rfl)) ?_ | refine x_nilck (by rfl) (by rfl) ?_ | refine x_len (by rfl) (by rfl) ElOf.some ?_ | refine x_iface (by rfl) (by rfl) NIf.h ?_ | refine x_ext (by rfl) (by rfl) (by rfl) ?_ | refine x_pickT (by rfl) (by rfl) (by rfl) ?_ | refine x_pickF (by rfl) (by rfl) (by rfl) ?_ | refine x_add (by rfl) (by rfl) (by rfl) (by omega) ?_ | refine x_sub (by rfl) (by rfl) (by rfl) (by omega) ?_ | refine x_lss (by rfl) (by rfl) (by rfl) ?_ | refine x_geq (by rfl) (by rfl) (by rfl) ?_ | refine x_leq (by rfl) (by rfl) (by rfl) ?_ | refine x_gtr (by rfl) (by rfl) (by rfl) ?_ | refine x_eql (by rfl) (by rfl) (by rfl) ?_ | refine x_neq (by rfl) (by rfl) (by rfl) ?_ | refine x_not (by rfl) (by rfl) ?_)
  refine x_nilw ?_
  (repeat (first | refine swp_seq ?_ | refine swp_block ?_)); refine swp_draw (Ext w6) [] Mixed.h (by kernel_rfl) (by kernel_rfl) (ext_drew w6) ?_
  repeat (first | refine x_move (by rfl) ?_ | refine x_as (by rfl) (by rfl) ?_ | refine x_skip (by rfl) ?_ | refine x_fld (by rfl) (by rfl) FldO.h ?_ | refine w_load (by rfl) (by rfl) (load_one OneT.h (by assumption) (by rfl)) ?_ | refine x_nilck (by rfl) (by rfl) ?_ | refine x_len (by rfl) (by rfl) ElOf.some ?_ | refine x_iface (by rfl) (by rfl) NIf.h ?_ | refine x_ext (by rfl) (by rfl) (by rfl) ?_ | refine x_pickT (by rfl) (by rfl) (by rfl) ?_ | refine x_pickF (by rfl) (by rfl) (by rfl) ?_ | refine x_add (by rfl) (by rfl) (by rfl) (by omega) ?_ | refine x_sub (by rfl) (by rfl) (by rfl) (by omega) ?_ | refine x_lss (by rfl) (by rfl) (by rfl) ?_ | refine x_geq (by rfl) (by rfl) (by rfl) ?_ | refine x_leq (by rfl) (by rfl) (by rfl) ?_ | refine x_gtr (by rfl) (by rfl) (by rfl) ?_ | refine x_eql (by rfl) (by rfl) (by rfl) ?_ | refine x_neq (by rfl) (by rfl) (by rfl) ?_ | refine x_not (by rfl) (by rfl) ?_)
  refine q_load (by rfl) (by rfl) (by rfl) (fun w' hw' => load_one OneT.h (hb.at hw') (by rfl)) ?_
  repeat (first | refine x_move (by rfl) ?_ | refine x_as (by rfl) (by rfl) ?_ | refine x_skip (by rfl) ?_ | refine x_fld (by rfl) (by rfl) FldO.h ?_ | refine w_load (by rfl) (by rfl) (load_one OneT.h (by assumption) (by rfl)) ?_ | refine x_nilck (by rfl) (by rfl) ?_ | refine x_len (by rfl) (by rfl) ElOf.some ?_ | refine x_iface (by rfl) (by rfl) NIf.h ?_ | refine x_ext (by rfl) (by rfl) (by rfl) ?_ | refine x_pickT (by rfl) (by rfl) (by rfl) ?_ | refine x_pickF (by rfl) (by rfl) (by rfl) ?_ | refine x_add (by rfl) (by rfl) (by rfl) (by omega) ?_ | refine x_sub (by rfl) (by rfl) (by rfl) (by omega) ?_ | refine x_lss (by rfl) (by rfl) (by rfl) ?_ | refine x_geq (by rfl) (by rfl) (by rfl) ?_ | refine x_leq (by rfl) (by rfl) (by rfl) ?_ | refine x_gtr (by rfl) (by rfl) (by rfl) ?_ | refine x_eql (by rfl) (by rfl) (by rfl) ?_ | refine x_neq (by rfl) (by rfl) (by rfl) ?_ | refine x_not (by rfl) (by rfl) ?_)
  refine q_load (by rfl) (by rfl) (by rfl) (fun w' hw' => load_one OneT.h (hb.at hw') (by rfl)) ?_
  repeat (first | refine x_move (by rfl) ?_ | refine x_as (by rfl) (by rfl) ?_ | refine x_skip (by rfl) ?_ | refine x_fld (by rfl) (by rfl) FldO.h ?_ | refine w_load (by rfl) (by rfl) (load_one OneT.h (by assumption) (by rfl)) ?_ | refine x_nilck (by rfl) (by rfl) ?_ | refine x_len (by rfl) (by rfl) ElOf.some ?_ | refine x_iface (by rfl) (by rfl) NIf.h ?_ | refine x_ext (by rfl) (by rfl) (by rfl) ?_ | refine x_pickT (by rfl) (by rfl) (by rfl) ?_ | refine x_pickF (by rfl) (by rfl) (by rfl) ?_ | refine x_add (by rfl) (by rfl) (by rfl) (by omega) ?_ | refine x_sub (by rfl) (by rfl) (by rfl) (by omega) ?_ | refine x_lss (by rfl) (by rfl) (by rfl) ?_ | refine x_geq (by rfl) (by rfl) (by rfl) ?_ | refine x_leq (by rfl) (by rfl) (by rfl) ?_ | refine x_gtr (by rfl) (by rfl) (by rfl) ?_ | refine x_eql (by rfl) (by rfl) (by rfl) ?_ | refine x_neq (by rfl) (by rfl) (by rfl) ?_ | refine x_not (by rfl) (by rfl) ?_)
  refine x_idx (L.length - 1) (by rfl) (by rfl) (by rfl) ElSz.h (by omega) (by omega) ?_
  refine q_load (by rfl) (by rfl) (by rfl) (fun w' hw' => load_agg AggT.h (hg.at hw') (fl_get enE_len hl' (by omega) rest) (enE_len _)) ?_
  refine x_idx 0 (by rfl) (by rfl) (by rfl) ElSz.h rfl (by omega) ?_
  refine x_fix (by rfl) (by rfl) (by rfl) fun w7 u7 => ?_
  refine w_store (xs := enE l) (by rfl) (by rfl) (by rfl) (by rfl) SzT.h (by rfl) (by rfl) (hg.at u7) (by rw [hc3]; have := Nat.mul_le_mul_right 6 hc1; omega) ?_
  intro w8 u8 hg8 _
  rw [fl_set (i := 0) enE_len (by omega) (by omega)] at hg8
  refine x_nilw ?_
  replace h2 := h2.at u7
  replace hb := hb.at u7
  replace h6' := h6'.at u7
  have hne5 : b5 ≠ g := by intro h; subst h; have := uA.size; have := hP.own.lt (b := b5) rfl; omega
  have hne2 : b2 ≠ g := by intro h; subst h; have := uA.size; have := hP.own.lt (b := b2) rfl; omega
  have hne25 : b2 ≠ b5 := by omega
  replace h2 := h2.get u8 hne2
  replace hb := hb.get u8 hbg
  replace h6' := h6'.get u8 hne5
  (repeat (first | refine swp_seq ?_ | refine swp_block ?_)); refine swp_region (by kernel_rfl) ?_
  repeat (first | refine x_move (by rfl) ?_ | refine x_as (by rfl) (by rfl) ?_ | refine x_skip (by rfl) ?_ | refine x_fld (by rfl) (by rfl) FldO.h ?_ | refine w_load (by rfl) (by rfl) (load_one OneT.h (by assumption) (by rfl)) ?_ | refine x_nilck (by rfl) (by rfl) ?_ | refine x_len (by rfl) (by rfl) ElOf.some ?_ | refine x_iface (by rfl) (by rfl) NIf.h ?_ | refine x_ext (by rfl) (by rfl) (by rfl) ?_ | refine x_pickT (by rfl) (by rfl) (by rfl) ?_ | refine x_pickF (by rfl) (by rfl) (by rfl) ?_ | refine x_add (by rfl) (by rfl) (by rfl) (by omega) ?_ | refine x_sub (by rfl) (by rfl) (by rfl) (by omega) ?_ | refine x_lss (by rfl) (by rfl) (by rfl) ?_ | refine x_geq (by rfl) (by rfl) (by rfl) ?_ | refine x_leq (by rfl) (by rfl) (by rfl) ?_ | refine x_gtr (by rfl) (by rfl) (by rfl) ?_ | refine x_eql (by rfl) (by rfl) (by rfl) ?_ | refine x_neq (by rfl) (by rfl) (by rfl) ?_ | refine x_not (by rfl) (by rfl) ?_)
  refine x_build (v := .agg (enE zE).toArray) (by rfl) (by rfl) (fun _ => by kernel_rfl) ?_
  refine x_idx (L.length - 1) (by rfl) (by rfl) (by rfl) ElSz.h (by omega) (by omega) ?_
  refine w_store (xs := enE zE) (by rfl) (by rfl) (by rfl) (by rfl) SzT.h (by rfl) (by rfl) hg8 (by rw [List.length_append, fl_length enE_len, List.length_set]; omega) ?_
  intro w9 u9 hg9 _
  rw [fl_set (i := L.length - 1) enE_len (by rw [List.length_set]; omega) (by omega), popped_fl l (by omega), List.append_assoc] at hg9
  refine x_nilw ?_
  replace h2 := h2.get u9 hne2
  replace hb := hb.get u9 hbg
  replace h6' := h6'.get u9 hne5
  (repeat (first | refine swp_seq ?_ | refine swp_block ?_)); refine swp_region (by kernel_rfl) ?_
  repeat (first | refine x_move (by rfl) ?_ | refine x_as (by rfl) (by rfl) ?_ | refine x_skip (by rfl) ?_ | refine x_fld (by rfl) (by rfl) FldO.h ?_ | refine w_load (by rfl) (by rfl) (load_one OneT.h (by assumption) (by rfl)) ?_ | refine x_nilck (by rfl) (by rfl) ?_ | refine x_len (by rfl) (by rfl) ElOf.some ?_ | refine x_iface (by rfl) (by rfl) NIf.h ?_ | refine x_ext (by rfl) (by rfl) (by rfl) ?_ | refine x_pickT (by rfl) (by rfl) (by rfl) ?_ | refine x_pickF (by rfl) (by rfl) (by rfl) ?_ | refine x_add (by rfl) (by rfl) (by rfl) (by omega) ?_ | refine x_sub (by rfl) (by rfl) (by rfl) (by omega) ?_ | refine x_lss (by rfl) (by rfl) (by rfl) ?_ | refine x_geq (by rfl) (by rfl) (by rfl) ?_ | refine x_leq (by rfl) (by rfl) (by rfl) ?_ | refine x_gtr (by rfl) (by rfl) (by rfl) ?_ | refine x_eql (by rfl) (by rfl) (by rfl) ?_ | refine x_neq (by rfl) (by rfl) (by rfl) ?_ | refine x_not (by rfl) (by rfl) ?_)
  refine x_cutTo (L.length - 1) (by rfl) (by rfl) (by rfl) (by rfl) (by omega) (by omega) ?_
  repeat (first | refine x_move (by rfl) ?_ | refine x_as (by rfl) (by rfl) ?_ | refine x_skip (by rfl) ?_ | refine x_fld (by rfl) (by rfl) FldO.h ?_ | refine w_load (by rfl) (by rfl) (load_one OneT.h (by assumption) (by rfl)) ?_ | refine x_nilck (by rfl) (by rfl) ?_ | refine x_len (by rfl) (by rfl) ElOf.some ?_ | refine x_iface (by rfl) (by rfl) NIf.h ?_ | refine x_ext (by rfl) (by rfl) (by rfl) ?_ | refine x_pickT (by rfl) (by rfl) (by rfl) ?_ | refine x_pickF (by rfl) (by rfl) (by rfl) ?_ | refine x_add (by rfl) (by rfl) (by rfl) (by omega) ?_ | refine x_sub (by rfl) (by rfl) (by rfl) (by omega) ?_ | refine x_lss (by rfl) (by rfl) (by rfl) ?_ | refine x_geq (by rfl) (by rfl) (by rfl) ?_ | refine x_leq (by rfl) (by rfl) (by rfl) ?_ | refine x_gtr (by rfl) (by rfl) (by rfl) ?_ | refine x_eql (by rfl) (by rfl) (by rfl) ?_ | refine x_neq (by rfl) (by rfl) (by rfl) ?_ | refine x_not (by rfl) (by rfl) ?_)
  refine w_store (xs := [.slice (some ⟨g, 0, none⟩) (L.length - 1) cap]) (by rfl) (by rfl) (by rfl) (by rfl) SzT.h (by rfl) (by rfl) hb (by simp) ?_
  intro w10 u10 hb10 _
  have hb10' : Blk w10 bp 113 [.slice (some ⟨g, 0, none⟩) (L.length - 1) cap, .int .u64 (N : Nat)] := hb10
  refine x_nilw ?_
  replace hg9 := hg9.get u10 (Ne.symm hbg)
  have hb5p : b5 ≠ bp := by intro h; subst h; have := uA.size; have := hP.blk.lt; omega
  have hb2p : b2 ≠ bp := by intro h; subst h; have := uA.size; have := hP.blk.lt; omega
  replace h2 := h2.get u10 hb2p
  replace h6' := h6'.get u10 hb5p
  have hdown := down (cap := cap) ho hg9 (by rw [popped_length]; omega) (DownInv.pop hH.heap l) (fun u hu => by
    have hu' : u ∈ L := (popped_perm he hl').mem_iff.2 (List.mem_cons_of_mem _ hu)
    exact ((hmem u hu').get ((((uA.ext u7).trans' u8 fun b _ h => .inr h).trans' u9 fun b _ h => .inr h).trans' u10 fun b _ h => .inl h) fun _ _ h => h).mono fun b _ h => .inr h)
  rw [popped_length] at hdown
  (repeat (first | refine swp_seq ?_ | refine swp_block ?_)); refine swp_region (by kernel_rfl) ?_
  repeat (first | refine x_move (by rfl) ?_ | refine x_as (by rfl) (by rfl) ?_ | refine x_skip (by rfl) ?_ | refine x_fld (by rfl) (by rfl) FldO.h ?_ | refine w_load (by rfl) (by rfl) (load_one OneT.h (by assumption) (by rfl)) ?_ | refine x_nilck (by rfl) (by rfl) ?_ | refine x_len (by rfl) (by rfl) ElOf.some ?_ | refine x_iface (by rfl) (by rfl) NIf.h ?_ | refine x_ext (by rfl) (by rfl) (by rfl) ?_ | refine x_pickT (by rfl) (by rfl) (by rfl) ?_ | refine x_pickF (by rfl) (by rfl) (by rfl) ?_ | refine x_add (by rfl) (by rfl) (by rfl) (by omega) ?_ | refine x_sub (by rfl) (by rfl) (by rfl) (by omega) ?_ | refine x_lss (by rfl) (by rfl) (by rfl) ?_ | refine x_geq (by rfl) (by rfl) (by rfl) ?_ | refine x_leq (by rfl) (by rfl) (by rfl) ?_ | refine x_gtr (by rfl) (by rfl) (by rfl) ?_ | refine x_eql (by rfl) (by rfl) (by rfl) ?_ | refine x_neq (by rfl) (by rfl) (by rfl) ?_ | refine x_not (by rfl) (by rfl) ?_)
  refine w_call (by rfl) (by rfl) (by rfl) hdown ?_
  rintro _ w11 ⟨rfl, L', hperm, hheap, hg11, u11⟩
  refine x_nilw ?_
  replace h2 := h2.get u11 hne2
  replace hb10' := hb10'.get u11 hbg
  replace h6' := h6'.get u11 hne5
  (repeat (first | refine swp_seq ?_ | refine swp_block ?_)); refine swp_region (by kernel_rfl) ?_
  refine w_load (by rfl) (by rfl) (load_agg (xs := e.1.cells) AggT.h h6' (by rfl) (by rfl)) ?_
  refine w_store (xs := e.1.cells) (by rfl) (by rfl) (by rfl) (by rfl) SzT.h (by rfl) (by rfl) h2 (by simp) ?_
  intro w12 u12 h12 _
  repeat (first | refine x_move (by rfl) ?_ | refine x_as (by rfl) (by rfl) ?_ | refine x_skip (by rfl) ?_ | refine x_fld (by rfl) (by rfl) FldO.h ?_ | refine w_load (by rfl) (by rfl) (load_one OneT.h (by assumption) (by rfl)) ?_ | refine x_nilck (by rfl) (by rfl) ?_ | refine x_len (by rfl) (by rfl) ElOf.some ?_ | refine x_iface (by rfl) (by rfl) NIf.h ?_ | refine x_ext (by rfl) (by rfl) (by rfl) ?_ | refine x_pickT (by rfl) (by rfl) (by rfl) ?_ | refine x_pickF (by rfl) (by rfl) (by rfl) ?_ | refine x_add (by rfl) (by rfl) (by rfl) (by omega) ?_ | refine x_sub (by rfl) (by rfl) (by rfl) (by omega) ?_ | refine x_lss (by rfl) (by rfl) (by rfl) ?_ | refine x_geq (by rfl) (by rfl) (by rfl) ?_ | refine x_leq (by rfl) (by rfl) (by rfl) ?_ | refine x_gtr (by rfl) (by rfl) (by rfl) ?_ | refine x_eql (by rfl) (by rfl) (by rfl) ?_ | refine x_neq (by rfl) (by rfl) (by rfl) ?_ | refine x_not (by rfl) (by rfl) ?_)
  refine x_nilw ?_
  refine swp_ret ?_; (repeat (first | with_reducible refine r_then ?_ | with_reducible refine r_block ?_ | with_reducible refine r_jump ?_))
  have hl2 : L'.length = L.length - 1 := by rw [hperm.length_eq, popped_length]
  obtain ⟨S2, hS2, hH2⟩ := hH.pop ho he hl' hperm hheap
  injection hS2 with _ hS2
  subst hS2
  refine postCT rfl rfl (load_agg (xs := e.1.cells) AggT.h h12 (by rfl) (by rfl)) rfl ⟨_, rfl, rfl, .slice (some ⟨g, 0, none⟩) (L.length - 1) cap, ⟨L', ⟨hb10'.get u12 (Ne.symm hb2p), ?_, hP.ne⟩, hH2⟩, ?_, fun b hb => hb⟩
  · rw [hl2]
    refine Own.of (by rw [fl_length enE_len, hl2]) (hg11.get u12 (Ne.symm hne2)) (by omega) hc2 ?_
    rw [List.length_append, fl_length enE_len, hl2, List.length_append, enE_len]
    rw [List.length_append, fl_length enE_len] at hc3
    have : L.length * 6 = (L.length - 1) * 6 + 6 := by rw [← Nat.succ_mul]; congr 1; omega
    omega
  · refine ((((((uA.ext u7).trans' u8 ?_).trans' u9 ?_).trans' u10 ?_).trans' u11 ?_).trans' u12 ?_)
    · intro b _ h; exact .inr h
    · intro b _ h; exact .inr h
    · intro b _ h; exact .inl h
    · intro b _ h; exact .inr h
    · intro b hb h; subst h; exact absurd hb (by omega)
end Go.Proofs.Ytpnigekkbmanlaa.PWt
