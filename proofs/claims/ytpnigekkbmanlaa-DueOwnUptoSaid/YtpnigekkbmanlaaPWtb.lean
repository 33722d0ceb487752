/- A pile of Wt: New, Push, Pop, Len, by what is held in its order. Conditions: fewer than 2^61 things; room for what grows. -/
import Derived.Test.YtpnigekkbmanlaaPWta
namespace Go.Proofs.Ytpnigekkbmanlaa.PWt
open Sx Hp

structure PAt (w : World) (bp : Nat) (sv : Value) (L : List E) (N : Nat) : Prop where
  blk : Blk w bp 113 [sv, .int .u64 (N : Nat)]
  own : Own w 116 6 sv L.length (fl enE L)
  ne : ¬ isIn sv bp
/-- The pile behind the pointer bp, its heap's slice sv: it holds S, in its order. -/
def Pile (w : World) (bp : Nat) (sv : Value) (S : List Wt) (N : Nat) : Prop := ∃ L, PAt w bp sv L N ∧ Holds wlt L S N
def foot (bp : Nat) (sv : Value) : Nat → Prop := fun b => b = bp ∨ isIn sv b

theorem PAt.get {F : Nat → Prop} {w w' : World} {bp : Nat} {sv : Value} {L : List E} {N : Nat} (h : PAt w bp sv L N) (u : Upd F w w') (hn : ∀ b, foot bp sv b → ¬F b) : PAt w' bp sv L N :=
  ⟨h.blk.get u (hn bp (.inl rfl)), h.own.get u fun b hb => hn b (.inr hb), h.ne⟩
theorem PAt.at {w w' : World} {bp : Nat} {sv : Value} {L : List E} {N : Nat} (h : PAt w bp sv L N) (u : Ext w w') : PAt w' bp sv L N := h.get u fun _ _ h => h
theorem Pile.get {F : Nat → Prop} {w w' : World} {bp : Nat} {sv : Value} {S : List Wt} {N : Nat} (h : Pile w bp sv S N) (u : Upd F w w') (hn : ∀ b, foot bp sv b → ¬F b) : Pile w' bp sv S N :=
  let ⟨L, h1, h2⟩ := h
  ⟨L, h1.get u hn, h2⟩
theorem Pile.at {w w' : World} {bp : Nat} {sv : Value} {S : List Wt} {N : Nat} (h : Pile w bp sv S N) (u : Ext w w') : Pile w' bp sv S N := h.get u fun _ _ h => h
theorem Pile.lt {w : World} {bp : Nat} {sv : Value} {S : List Wt} {N : Nat} (h : Pile w bp sv S N) {b : Nat} (hb : foot bp sv b) : b < w.heap.size := by
  obtain ⟨L, h1, _⟩ := h
  rcases hb with rfl | hb
  · exact h1.blk.lt
  · exact h1.own.lt hb

set_option maxRecDepth 100000 in
theorem new (w : World) : Gets Try.prog 45 [] w fun v w' => ∃ bp, v = .pointer (some ⟨bp, 0, none⟩) ∧ w.heap.size ≤ bp ∧ Ext w w' ∧ Pile w' bp (.slice none 0 0) [] 0 := by
  refine ⟨GoFn.h, calls_of_swp 3 Try.func45 Try.ntmps45 rfl (Nat.le_of_ble_eq_true rfl) ?_⟩
  (repeat (first | refine swp_seq ?_ | refine swp_block ?_)); refine swp_region (by kernel_rfl) ?_
  repeat (first | refine x_move (by rfl) ?_ | refine x_as (by rfl) (by rfl) ?_ | refine x_skip (by rfl) ?_ | refine x_fld (by rfl) (by rfl) FldO.h ?_ | refine w_load (by rfl) (by rfl) (load_one OneT.h (by assumption) (by rfl)) ?_ | refine x_nilck (by rfl) (by rfl) ?_ | refine x_len (by rfl) (by rfl) ElOf.some ?_ | refine x_iface (by rfl) (by rfl) NIf.h ?_ | refine x_ext (by rfl) (by rfl) (by rfl) ?_ | refine x_pickT (by rfl) (by rfl) (by rfl) ?_ | refine x_pickF (by rfl) (by rfl) (by rfl) ?_ | refine x_add (by rfl) (by rfl) (by rfl) (by omega) ?_ | refine x_sub (by rfl) (by rfl) (by rfl) (by omega) ?_ | refine x_lss (by rfl) (by rfl) (by rfl) ?_ | refine x_geq (by rfl) (by rfl) (by rfl) ?_ | refine x_leq (by rfl) (by rfl) (by rfl) ?_ | refine x_gtr (by rfl) (by rfl) (by rfl) ?_ | refine x_eql (by rfl) (by rfl) (by rfl) ?_ | refine x_neq (by rfl) (by rfl) (by rfl) ?_ | refine x_not (by rfl) (by rfl) ?_)
  refine x_nilw ?_
  (repeat (first | refine swp_seq ?_ | refine swp_block ?_)); refine swp_region (by kernel_rfl) ?_
  refine x_build (v := .agg [.slice none 0 0, .int .u64 0].toArray) (by rfl) (by rfl) (fun _ => by kernel_rfl) ?_
  refine w_boxA (by rfl) (by rfl) (by rfl) ?_; intro b0 w0 e0 u0 h0
  repeat (first | refine x_move (by rfl) ?_ | refine x_as (by rfl) (by rfl) ?_ | refine x_skip (by rfl) ?_ | refine x_fld (by rfl) (by rfl) FldO.h ?_ | refine w_load (by rfl) (by rfl) (load_one OneT.h (by assumption) (by rfl)) ?_ | refine x_nilck (by rfl) (by rfl) ?_ | refine x_len (by rfl) (by rfl) ElOf.some ?_ | refine x_iface (by rfl) (by rfl) NIf.h ?_ | refine x_ext (by rfl) (by rfl) (by rfl) ?_ | refine x_pickT (by rfl) (by rfl) (by rfl) ?_ | refine x_pickF (by rfl) (by rfl) (by rfl) ?_ | refine x_add (by rfl) (by rfl) (by rfl) (by omega) ?_ | refine x_sub (by rfl) (by rfl) (by rfl) (by omega) ?_ | refine x_lss (by rfl) (by rfl) (by rfl) ?_ | refine x_geq (by rfl) (by rfl) (by rfl) ?_ | refine x_leq (by rfl) (by rfl) (by rfl) ?_ | refine x_gtr (by rfl) (by rfl) (by rfl) ?_ | refine x_eql (by rfl) (by rfl) (by rfl) ?_ | refine x_neq (by rfl) (by rfl) (by rfl) ?_ | refine x_not (by rfl) (by rfl) ?_)
  refine x_nilw ?_
  refine swp_ret ?_; (repeat (first | with_reducible refine r_then ?_ | with_reducible refine r_block ?_ | with_reducible refine r_jump ?_))
  exact post1 rfl rfl ⟨_, rfl, b0, rfl, by omega, u0, [], ⟨h0, Own.nil _ _ _, fun h => h⟩, Holds.nil _ _⟩

set_option maxRecDepth 100000 in
theorem len {w : World} {bp : Nat} {sv : Value} {S : List Wt} {N : Nat} (hp : Pile w bp sv S N) : Gets Try.prog 56 [.pointer (some ⟨bp, 0, none⟩)] w fun v w' => v = .int .i64 (S.length : Nat) ∧ w = w' := by
  obtain ⟨L, hP, hH⟩ := hp
  obtain ⟨a, cap, rfl⟩ := hP.own.slice
  have hb := hP.blk
  refine ⟨GoFn.h, calls_of_swp 8 Try.func56 Try.ntmps56 rfl (Nat.le_of_ble_eq_true rfl) ?_⟩
  (repeat (first | refine swp_seq ?_ | refine swp_block ?_)); refine swp_region (by kernel_rfl) ?_
  repeat (first | refine x_move (by rfl) ?_ | refine x_as (by rfl) (by rfl) ?_ | refine x_skip (by rfl) ?_ | refine x_fld (by rfl) (by rfl) FldO.h ?_ | refine w_load (by rfl) (by rfl) (load_one OneT.h (by assumption) (by rfl)) ?_ | refine x_nilck (by rfl) (by rfl) ?_ | refine x_len (by rfl) (by rfl) ElOf.some ?_ | refine x_iface (by rfl) (by rfl) NIf.h ?_ | refine x_ext (by rfl) (by rfl) (by rfl) ?_ | refine x_pickT (by rfl) (by rfl) (by rfl) ?_ | refine x_pickF (by rfl) (by rfl) (by rfl) ?_ | refine x_add (by rfl) (by rfl) (by rfl) (by omega) ?_ | refine x_sub (by rfl) (by rfl) (by rfl) (by omega) ?_ | refine x_lss (by rfl) (by rfl) (by rfl) ?_ | refine x_geq (by rfl) (by rfl) (by rfl) ?_ | refine x_leq (by rfl) (by rfl) (by rfl) ?_ | refine x_gtr (by rfl) (by rfl) (by rfl) ?_ | refine x_eql (by rfl) (by rfl) (by rfl) ?_ | refine x_neq (by rfl) (by rfl) (by rfl) ?_ | refine x_not (by rfl) (by rfl) ?_)
  refine x_nilw ?_
  (repeat (first | refine swp_seq ?_ | refine swp_block ?_)); refine swp_region (by kernel_rfl) ?_
  repeat (first | refine x_move (by rfl) ?_ | refine x_as (by rfl) (by rfl) ?_ | refine x_skip (by rfl) ?_ | refine x_fld (by rfl) (by rfl) FldO.h ?_ | refine w_load (by rfl) (by rfl) (load_one OneT.h (by assumption) (by rfl)) ?_ | refine x_nilck (by rfl) (by rfl) ?_ | refine x_len (by rfl) (by rfl) ElOf.some ?_ | refine x_iface (by rfl) (by rfl) NIf.h ?_ | refine x_ext (by rfl) (by rfl) (by rfl) ?_ | refine x_pickT (by rfl) (by rfl) (by rfl) ?_ | refine x_pickF (by rfl) (by rfl) (by rfl) ?_ | refine x_add (by rfl) (by rfl) (by rfl) (by omega) ?_ | refine x_sub (by rfl) (by rfl) (by rfl) (by omega) ?_ | refine x_lss (by rfl) (by rfl) (by rfl) ?_ | refine x_geq (by rfl) (by rfl) (by rfl) ?_ | refine x_leq (by rfl) (by rfl) (by rfl) ?_ | refine x_gtr (by rfl) (by rfl) (by rfl) ?_ | refine x_eql (by rfl) (by rfl) (by rfl) ?_ | refine x_neq (by rfl) (by rfl) (by rfl) ?_ | refine x_not (by rfl) (by rfl) ?_)
  refine x_nilw ?_
  refine swp_ret ?_; (repeat (first | with_reducible refine r_then ?_ | with_reducible refine r_block ?_ | with_reducible refine r_jump ?_))
  exact post1 rfl rfl ⟨_, rfl, by rw [hH.length]; rfl, rfl⟩

set_option maxHeartbeats 4000000 in
set_option maxRecDepth 100000 in
theorem push (ho : Ord wlt) {w : World} {bp : Nat} {sv : Value} {S : List Wt} {N : Nat} (x : Wt) (hp : Pile w bp sv S N) (hN : N ≤ 4611686018427387903) (hr : Room (S.length + 1) 112) (hx : Apt (foot bp sv) w x) (hS : ∀ y ∈ S, Apt (foot bp sv) w y) :
    Gets Try.prog 48 [.pointer (some ⟨bp, 0, none⟩), x.v] w fun v w' => v = .tuple #[] ∧ ∃ sv', Pile w' bp sv' (put wlt S x) (N + 1) ∧ Upd (foot bp sv) w w' ∧ ∀ b, isIn sv' b → isIn sv b ∨ w.heap.size ≤ b := by
  obtain ⟨L, hP, hH⟩ := hp
  have hlen := hH.length
  rw [hlen] at hr
  obtain ⟨a, cap, rfl⟩ := hP.own.slice
  refine ⟨GoFn.h, calls_of_swp 37 Try.func48 Try.ntmps48 rfl (Nat.le_of_ble_eq_true rfl) ?_⟩
  (repeat (first | refine swp_seq ?_ | refine swp_block ?_)); refine swp_region (by kernel_rfl) ?_
  refine w_boxA (by rfl) (by rfl) (by rfl) ?_; intro b0 w0 e0 u0 h0
  have hP0 := hP.at u0
  have hb0 := hP0.blk
  refine x_nilw ?_
  (repeat (first | refine swp_seq ?_ | refine swp_block ?_)); refine swp_draw (Ext w0) [1011] Mixed.h (by kernel_rfl) (by kernel_rfl) (ext_drew w0) ?_
  repeat (first | refine x_move (by rfl) ?_ | refine x_as (by rfl) (by rfl) ?_ | refine x_skip (by rfl) ?_ | refine x_fld (by rfl) (by rfl) FldO.h ?_ | refine w_load (by rfl) (by rfl) (load_one OneT.h (by assumption) (by rfl)) ?_ | refine x_nilck (by rfl) (by rfl) ?_ | refine x_len (by rfl) (by rfl) ElOf.some ?_ | refine x_iface (by rfl) (by rfl) NIf.h ?_ | refine x_ext (by rfl) (by rfl) (by rfl) ?_ | refine x_pickT (by rfl) (by rfl) (by rfl) ?_ | refine x_pickF (by rfl) (by rfl) (by rfl) ?_ | refine x_add (by rfl) (by rfl) (by rfl) (by omega) ?_ | refine x_sub (by rfl) (by rfl) (by rfl) (by omega) ?_ | refine x_lss (by rfl) (by rfl) (by rfl) ?_ | refine x_geq (by rfl) (by rfl) (by rfl) ?_ | refine x_leq (by rfl) (by rfl) (by rfl) ?_ | refine x_gtr (by rfl) (by rfl) (by rfl) ?_ | refine x_eql (by rfl) (by rfl) (by rfl) ?_ | refine x_neq (by rfl) (by rfl) (by rfl) ?_ | refine x_not (by rfl) (by rfl) ?_)
  refine q_load (by rfl) (by rfl) (by rfl) (fun w' hw' => load_one OneT.h (hb0.at hw') (by rfl)) ?_
  refine q_load (by rfl) (by rfl) (by rfl) (fun w' hw' => load_agg (xs := x.cells) AggT.h (h0.at hw') (by rfl) (by rfl)) ?_
  repeat (first | refine x_move (by rfl) ?_ | refine x_as (by rfl) (by rfl) ?_ | refine x_skip (by rfl) ?_ | refine x_fld (by rfl) (by rfl) FldO.h ?_ | refine w_load (by rfl) (by rfl) (load_one OneT.h (by assumption) (by rfl)) ?_ | refine x_nilck (by rfl) (by rfl) ?_ | refine x_len (by rfl) (by rfl) ElOf.some ?_ | refine x_iface (by rfl) (by rfl) NIf.h ?_ | refine x_ext (by rfl) (by rfl) (by rfl) ?_ | refine x_pickT (by rfl) (by rfl) (by rfl) ?_ | refine x_pickF (by rfl) (by rfl) (by rfl) ?_ | refine x_add (by rfl) (by rfl) (by rfl) (by omega) ?_ | refine x_sub (by rfl) (by rfl) (by rfl) (by omega) ?_ | refine x_lss (by rfl) (by rfl) (by rfl) ?_ | refine x_geq (by rfl) (by rfl) (by rfl) ?_ | refine x_leq (by rfl) (by rfl) (by rfl) ?_ | refine x_gtr (by rfl) (by rfl) (by rfl) ?_ | refine x_eql (by rfl) (by rfl) (by rfl) ?_ | refine x_neq (by rfl) (by rfl) (by rfl) ?_ | refine x_not (by rfl) (by rfl) ?_)
  refine q_load (by rfl) (by rfl) (by rfl) (fun w' hw' => load_one OneT.h (hb0.at hw') (by rfl)) ?_
  refine x_build (v := .agg (enE (x, (N : Int))).toArray) (by rfl) (by rfl) (fun _ => by kernel_rfl) ?_
  refine f_bslice (e := 116) (cs := enE (x, (N : Int))) (by rfl) (by rfl) (by rfl) (by kernel_rfl) (fun _ _ h u => Upd.trans h u) ?_
  intro w1 b2 w2 u1 e2 u2 h2
  have hP1 := hP0.at u1
  refine x_fix (by rfl) (by rfl) (by rfl) fun w2' u2' => ?_
  replace h2 := h2.at u2'
  replace u2 := u2.trans u2'
  have hP2 := hP1.at u2
  refine w_append (more := []) (news := enE (x, (N : Int))) (by rfl) (by rfl) (by rfl) (by rfl) SlC.h hP2.own (by rw [List.append_nil]; exact h2) (by rfl) (by rfl) (by omega) hr ?_
  intro sv' w3 hown3 u3 hin3
  obtain ⟨a', cap', rfl⟩ := hown3.slice
  have hb3 := hP2.blk.get u3 hP2.ne
  repeat (first | refine x_move (by rfl) ?_ | refine x_as (by rfl) (by rfl) ?_ | refine x_skip (by rfl) ?_ | refine x_fld (by rfl) (by rfl) FldO.h ?_ | refine w_load (by rfl) (by rfl) (load_one OneT.h (by assumption) (by rfl)) ?_ | refine x_nilck (by rfl) (by rfl) ?_ | refine x_len (by rfl) (by rfl) ElOf.some ?_ | refine x_iface (by rfl) (by rfl) NIf.h ?_ | refine x_ext (by rfl) (by rfl) (by rfl) ?_ | refine x_pickT (by rfl) (by rfl) (by rfl) ?_ | refine x_pickF (by rfl) (by rfl) (by rfl) ?_ | refine x_add (by rfl) (by rfl) (by rfl) (by omega) ?_ | refine x_sub (by rfl) (by rfl) (by rfl) (by omega) ?_ | refine x_lss (by rfl) (by rfl) (by rfl) ?_ | refine x_geq (by rfl) (by rfl) (by rfl) ?_ | refine x_leq (by rfl) (by rfl) (by rfl) ?_ | refine x_gtr (by rfl) (by rfl) (by rfl) ?_ | refine x_eql (by rfl) (by rfl) (by rfl) ?_ | refine x_neq (by rfl) (by rfl) (by rfl) ?_ | refine x_not (by rfl) (by rfl) ?_)
  refine w_store (xs := [.slice a' (L.length + 1) cap']) (by rfl) (by rfl) (by rfl) (by rfl) SzT.h (by rfl) (by rfl) hb3 (by simp) ?_
  intro w4 u4 hb4 _
  refine x_nilw ?_
  have hne : ¬ isIn (.slice a' (L.length + 1) cap') bp := fun h => by
    rcases hin3 _ h with h | h
    · exact hP.ne h
    · have := hP2.blk.lt; omega
  have hown4 := hown3.get u4 (fun b hb e => hne (by subst e; exact hb))
  have hb4' : Blk w4 bp 113 [.slice a' (L.length + 1) cap', .int .u64 (N : Nat)] := hb4
  have uu : Upd (foot bp (.slice a L.length cap)) w w4 := (((((u0.trans u1).trans u2).of _).trans (u3.mono (fun b hb => .inr hb))).trans' u4 (fun b _ e => .inl e))
  clear hb4 hb3 hP2 hP1 hb0 hP0 h2 h0
  (repeat (first | refine swp_seq ?_ | refine swp_block ?_)); refine swp_region (by kernel_rfl) ?_
  refine x_move (by rfl) ?_
  refine x_nilck (by rfl) (by rfl) ?_
  refine x_fld (by rfl) (by rfl) FldO.h ?_
  refine w_load (by rfl) (by rfl) (load_one OneT.h hb4' (by rfl)) ?_
  refine x_addU (by rfl) (by rfl) (by rfl) (by omega) ?_
  repeat (first | refine x_move (by rfl) ?_ | refine x_as (by rfl) (by rfl) ?_ | refine x_skip (by rfl) ?_ | refine x_fld (by rfl) (by rfl) FldO.h ?_ | refine w_load (by rfl) (by rfl) (load_one OneT.h (by assumption) (by rfl)) ?_ | refine x_nilck (by rfl) (by rfl) ?_ | refine x_len (by rfl) (by rfl) ElOf.some ?_ | refine x_iface (by rfl) (by rfl) NIf.h ?_ | refine x_ext (by rfl) (by rfl) (by rfl) ?_ | refine x_pickT (by rfl) (by rfl) (by rfl) ?_ | refine x_pickF (by rfl) (by rfl) (by rfl) ?_ | refine x_add (by rfl) (by rfl) (by rfl) (by omega) ?_ | refine x_sub (by rfl) (by rfl) (by rfl) (by omega) ?_ | refine x_lss (by rfl) (by rfl) (by rfl) ?_ | refine x_geq (by rfl) (by rfl) (by rfl) ?_ | refine x_leq (by rfl) (by rfl) (by rfl) ?_ | refine x_gtr (by rfl) (by rfl) (by rfl) ?_ | refine x_eql (by rfl) (by rfl) (by rfl) ?_ | refine x_neq (by rfl) (by rfl) (by rfl) ?_ | refine x_not (by rfl) (by rfl) ?_)
  refine w_store (xs := [.int .u64 ((N : Int) + 1)]) (by rfl) (by rfl) (by rfl) (by rfl) SzT.h (by rfl) (by rfl) hb4' (by simp) ?_
  intro w5 u5 hb5 _
  refine x_nilw ?_
  have hb5' : Blk w5 bp 113 [.slice a' (L.length + 1) cap', .int .u64 ((N + 1 : Nat) : Int)] := hb5
  have hown5 := hown4.get u5 (fun b hb e => hne (by subst e; exact hb))
  have hcells : fl enE L ++ enE (x, (N : Int)) = fl enE (L ++ [(x, (N : Int))]) := by rw [fl_append, fl_one]
  rw [hcells] at hown5
  obtain ⟨g, cap2, rest, he, hg, hc1, hc2, hc3⟩ := hown5.pos (by omega)
  simp only [Value.slice.injEq] at he
  obtain ⟨rfl, _, rfl⟩ := he
  clear hb4' hown4 hown3 hb5
  (repeat (first | refine swp_seq ?_ | refine swp_block ?_)); refine swp_draw (Ext w5) [10] Mixed.h (by kernel_rfl) (by kernel_rfl) (ext_drew w5) ?_
  repeat (first | refine x_move (by rfl) ?_ | refine x_as (by rfl) (by rfl) ?_ | refine x_skip (by rfl) ?_ | refine x_fld (by rfl) (by rfl) FldO.h ?_ | refine w_load (by rfl) (by rfl) (load_one OneT.h (by assumption) (by rfl)) ?_ | refine x_nilck (by rfl) (by rfl) ?_ | refine x_len (by rfl) (by rfl) ElOf.some ?_ | refine x_iface (by rfl) (by rfl) NIf.h ?_ | refine x_ext (by rfl) (by rfl) (by rfl) ?_ | refine x_pickT (by rfl) (by rfl) (by rfl) ?_ | refine x_pickF (by rfl) (by rfl) (by rfl) ?_ | refine x_add (by rfl) (by rfl) (by rfl) (by omega) ?_ | refine x_sub (by rfl) (by rfl) (by rfl) (by omega) ?_ | refine x_lss (by rfl) (by rfl) (by rfl) ?_ | refine x_geq (by rfl) (by rfl) (by rfl) ?_ | refine x_leq (by rfl) (by rfl) (by rfl) ?_ | refine x_gtr (by rfl) (by rfl) (by rfl) ?_ | refine x_eql (by rfl) (by rfl) (by rfl) ?_ | refine x_neq (by rfl) (by rfl) (by rfl) ?_ | refine x_not (by rfl) (by rfl) ?_)
  refine q_load (by rfl) (by rfl) (by rfl) (fun w' hw' => load_one OneT.h (hb5'.at hw') (by rfl)) ?_
  repeat (first | refine x_move (by rfl) ?_ | refine x_as (by rfl) (by rfl) ?_ | refine x_skip (by rfl) ?_ | refine x_fld (by rfl) (by rfl) FldO.h ?_ | refine w_load (by rfl) (by rfl) (load_one OneT.h (by assumption) (by rfl)) ?_ | refine x_nilck (by rfl) (by rfl) ?_ | refine x_len (by rfl) (by rfl) ElOf.some ?_ | refine x_iface (by rfl) (by rfl) NIf.h ?_ | refine x_ext (by rfl) (by rfl) (by rfl) ?_ | refine x_pickT (by rfl) (by rfl) (by rfl) ?_ | refine x_pickF (by rfl) (by rfl) (by rfl) ?_ | refine x_add (by rfl) (by rfl) (by rfl) (by omega) ?_ | refine x_sub (by rfl) (by rfl) (by rfl) (by omega) ?_ | refine x_lss (by rfl) (by rfl) (by rfl) ?_ | refine x_geq (by rfl) (by rfl) (by rfl) ?_ | refine x_leq (by rfl) (by rfl) (by rfl) ?_ | refine x_gtr (by rfl) (by rfl) (by rfl) ?_ | refine x_eql (by rfl) (by rfl) (by rfl) ?_ | refine x_neq (by rfl) (by rfl) (by rfl) ?_ | refine x_not (by rfl) (by rfl) ?_)
  refine q_load (by rfl) (by rfl) (by rfl) (fun w' hw' => load_one OneT.h (hb5'.at hw') (by rfl)) ?_
  refine x_len (by rfl) (by rfl) ElOf.some ?_
  refine x_sub (by rfl) (by rfl) (by rfl) (by have := hr.1; omega) ?_
  refine x_fix (by rfl) (by rfl) (by rfl) fun w6 u6 => ?_
  have hup6 := up (cap := cap') ho (hg.at u6) (by rw [List.length_append]; simp; have := hr.1; omega) (UpInv.push hH (x, (N : Int))) (fun e he => by
    have h0 : Apt (foot bp (.slice a L.length cap)) w e.1 := by
      rcases List.mem_append.1 he with he | he
      · exact hS _ (hH.mem he)
      · rw [List.mem_singleton.1 he]; exact hx
    refine ⟨(h0.get ((uu.trans' u5 (fun b _ e => .inl e)).ext u6) fun _ _ h => h).rdy, fun b hb hbg => ?_⟩
    have hbg' : b = g := hbg
    subst hbg'
    rcases hin3 b rfl with h | h
    · exact h0.ap b hb (.inr h)
    · have := h0.rdy.lt hb; have := (u0.trans u1).trans u2; have := this.size; omega)
  rw [List.length_append, List.length_singleton] at hup6
  have earg : ((L.length + 1 : Nat) : Int) - 1 = (L.length : Nat) := by omega
  rw [earg]
  refine w_call (by rfl) (by rfl) (by rfl) hup6 ?_
  rintro _ w7 ⟨rfl, L', hperm, hheap, hb7, u7⟩
  refine x_nilw ?_
  (repeat (first | with_reducible refine n_then ?_ | with_reducible refine n_block ?_ | with_reducible refine n_jump ?_))
  have hl' : L'.length = L.length + 1 := by rw [hperm.length_eq]; simp
  have hbp : bp ≠ g := fun e => hne (by subst e; rfl)
  refine post0n rfl ⟨_, rfl, rfl, .slice (some ⟨g, 0, none⟩) (L.length + 1) cap', ⟨L', ⟨(hb5'.at u6).get u7 hbp, ?_, hne⟩, hH.push ho hperm hheap⟩, ?_, fun b hb => ?_⟩
  · rw [hl']
    refine Own.of ?_ hb7 hc1 hc2 ?_
    · rw [fl_length enE_len, hl']
    · rw [List.length_append, fl_length enE_len] at hc3 ⊢
      rw [hl']
      simpa using hc3
  · refine ((uu.trans' u5 (fun b _ e => .inl e)).ext u6).trans' u7 (fun b hb e => ?_)
    subst e
    rcases hin3 b rfl with h | h
    · exact .inr h
    · exact absurd h (by have := (u0.trans u1).trans u2; have := this.size; omega)
  · rcases hin3 b hb with h | h
    · exact .inl h
    · exact .inr (by have := (u0.trans u1).trans u2; have := this.size; omega)
end Go.Proofs.Ytpnigekkbmanlaa.PWt
