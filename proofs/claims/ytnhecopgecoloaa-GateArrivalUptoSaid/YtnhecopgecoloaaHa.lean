/- GateSorts' walk: it answers true. Conditions: fewer than 2^60 steps; room. -/
import Derived.Test.YtnhecopgecoloaaGz
namespace Go.Proofs.Ytnhecopgecoloaa
open Hp Sx

set_option maxHeartbeats 4000000 in
set_option maxRecDepth 100000 in
theorem walk5 {w : World} {sv : Value} {xs : List Gop} (cap : Int) (h : Rd w 14 sv xs.length (fl Gop.cells xs)) (hr : Room (xs.length + 1) 88) (hl : xs.length ≤ 1152921504606846975) :
    Gets Try.prog 5 [.int .i64 cap, sv] w fun v w' => v = .bool true ∧ Ext w w' := by
  obtain ⟨a0, c0, rfl⟩ := h.slice
  refine ⟨GoFn.h, calls_of_swp 107 Try.func5 Try.ntmps5 rfl (Nat.le_of_ble_eq_true rfl) ?_⟩
  (repeat (first | refine swp_seq ?_ | refine swp_block ?_)); refine swp_region (by kernel_rfl) ?_
  repeat (first | refine x_move (by rfl) ?_ | refine x_as (by rfl) (by rfl) ?_ | refine x_skip (by rfl) ?_ | refine x_fld (by rfl) (by rfl) FldO.h ?_ | refine x_nilck (by rfl) (by rfl) ?_ | refine x_len (by rfl) (by rfl) ElOf.some ?_ | refine x_ext (by rfl) (by rfl) (by rfl) ?_ | refine x_pickT (by rfl) (by rfl) (by rfl) ?_ | refine x_pickF (by rfl) (by rfl) (by rfl) ?_ | refine x_add (by rfl) (by rfl) (by rfl) (by omega) ?_ | refine x_sub (by rfl) (by rfl) (by rfl) (by omega) ?_ | refine x_not (by rfl) (by rfl) ?_)
  refine x_nilw ?_
  (repeat (first | refine swp_seq ?_ | refine swp_block ?_)); refine swp_region (by kernel_rfl) ?_
  repeat (first | refine x_move (by rfl) ?_ | refine x_as (by rfl) (by rfl) ?_ | refine x_skip (by rfl) ?_ | refine x_fld (by rfl) (by rfl) FldO.h ?_ | refine x_nilck (by rfl) (by rfl) ?_ | refine x_len (by rfl) (by rfl) ElOf.some ?_ | refine x_ext (by rfl) (by rfl) (by rfl) ?_ | refine x_pickT (by rfl) (by rfl) (by rfl) ?_ | refine x_pickF (by rfl) (by rfl) (by rfl) ?_ | refine x_add (by rfl) (by rfl) (by rfl) (by omega) ?_ | refine x_sub (by rfl) (by rfl) (by rfl) (by omega) ?_ | refine x_not (by rfl) (by rfl) ?_)
  refine w_call (by rfl) (by rfl) (by rfl) (g_new cap w) ?_
  rintro _ w1 (⟨hc, rfl, u1⟩ | ⟨hc, bg, r, bp, sp, rfl, g1, hf1, u1⟩)
  · repeat (first | refine x_move (by rfl) ?_ | refine x_as (by rfl) (by rfl) ?_ | refine x_skip (by rfl) ?_ | refine x_fld (by rfl) (by rfl) FldO.h ?_ | refine x_nilck (by rfl) (by rfl) ?_ | refine x_len (by rfl) (by rfl) ElOf.some ?_ | refine x_ext (by rfl) (by rfl) (by rfl) ?_ | refine x_pickT (by rfl) (by rfl) (by rfl) ?_ | refine x_pickF (by rfl) (by rfl) (by rfl) ?_ | refine x_add (by rfl) (by rfl) (by rfl) (by omega) ?_ | refine x_sub (by rfl) (by rfl) (by rfl) (by omega) ?_ | refine x_not (by rfl) (by rfl) ?_)
    refine x_nilw ?_
    (repeat (first | refine swp_seq ?_ | refine swp_block ?_)); refine swp_region (by kernel_rfl) ?_
    repeat (first | refine x_move (by rfl) ?_ | refine x_as (by rfl) (by rfl) ?_ | refine x_skip (by rfl) ?_ | refine x_fld (by rfl) (by rfl) FldO.h ?_ | refine x_nilck (by rfl) (by rfl) ?_ | refine x_len (by rfl) (by rfl) ElOf.some ?_ | refine x_ext (by rfl) (by rfl) (by rfl) ?_ | refine x_pickT (by rfl) (by rfl) (by rfl) ?_ | refine x_pickF (by rfl) (by rfl) (by rfl) ?_ | refine x_add (by rfl) (by rfl) (by rfl) (by omega) ?_ | refine x_sub (by rfl) (by rfl) (by rfl) (by omega) ?_ | refine x_not (by rfl) (by rfl) ?_)
    by_cases h1 : cap < 1
    · refine x_lssT (by rfl) (by rfl) (by rfl) h1 ?_
      repeat (first | refine x_move (by rfl) ?_ | refine x_as (by rfl) (by rfl) ?_ | refine x_skip (by rfl) ?_ | refine x_fld (by rfl) (by rfl) FldO.h ?_ | refine x_nilck (by rfl) (by rfl) ?_ | refine x_len (by rfl) (by rfl) ElOf.some ?_ | refine x_ext (by rfl) (by rfl) (by rfl) ?_ | refine x_pickT (by rfl) (by rfl) (by rfl) ?_ | refine x_pickF (by rfl) (by rfl) (by rfl) ?_ | refine x_add (by rfl) (by rfl) (by rfl) (by omega) ?_ | refine x_sub (by rfl) (by rfl) (by rfl) (by omega) ?_ | refine x_not (by rfl) (by rfl) ?_)
      refine x_nilw ?_
      (repeat (first | refine swp_seq ?_ | refine swp_block ?_))
      refine swp_true (by rfl) ?_
      (repeat (first | refine swp_seq ?_ | refine swp_block ?_)); refine swp_region (by kernel_rfl) ?_
      repeat (first | refine x_move (by rfl) ?_ | refine x_as (by rfl) (by rfl) ?_ | refine x_skip (by rfl) ?_ | refine x_fld (by rfl) (by rfl) FldO.h ?_ | refine x_nilck (by rfl) (by rfl) ?_ | refine x_len (by rfl) (by rfl) ElOf.some ?_ | refine x_ext (by rfl) (by rfl) (by rfl) ?_ | refine x_pickT (by rfl) (by rfl) (by rfl) ?_ | refine x_pickF (by rfl) (by rfl) (by rfl) ?_ | refine x_add (by rfl) (by rfl) (by rfl) (by omega) ?_ | refine x_sub (by rfl) (by rfl) (by rfl) (by omega) ?_ | refine x_not (by rfl) (by rfl) ?_)
      refine x_eqlT (by rfl) (by rfl) (by rfl) rfl ?_
      repeat (first | refine x_move (by rfl) ?_ | refine x_as (by rfl) (by rfl) ?_ | refine x_skip (by rfl) ?_ | refine x_fld (by rfl) (by rfl) FldO.h ?_ | refine x_nilck (by rfl) (by rfl) ?_ | refine x_len (by rfl) (by rfl) ElOf.some ?_ | refine x_ext (by rfl) (by rfl) (by rfl) ?_ | refine x_pickT (by rfl) (by rfl) (by rfl) ?_ | refine x_pickF (by rfl) (by rfl) (by rfl) ?_ | refine x_add (by rfl) (by rfl) (by rfl) (by omega) ?_ | refine x_sub (by rfl) (by rfl) (by rfl) (by omega) ?_ | refine x_not (by rfl) (by rfl) ?_)
      refine x_eqlN Try.underlying22 (by rfl) (by rfl) (by rfl) ?_
      repeat (first | refine x_move (by rfl) ?_ | refine x_as (by rfl) (by rfl) ?_ | refine x_skip (by rfl) ?_ | refine x_fld (by rfl) (by rfl) FldO.h ?_ | refine x_nilck (by rfl) (by rfl) ?_ | refine x_len (by rfl) (by rfl) ElOf.some ?_ | refine x_ext (by rfl) (by rfl) (by rfl) ?_ | refine x_pickT (by rfl) (by rfl) (by rfl) ?_ | refine x_pickF (by rfl) (by rfl) (by rfl) ?_ | refine x_add (by rfl) (by rfl) (by rfl) (by omega) ?_ | refine x_sub (by rfl) (by rfl) (by rfl) (by omega) ?_ | refine x_not (by rfl) (by rfl) ?_)
      refine x_nilw ?_
      refine swp_ret ?_; (repeat (first | with_reducible refine r_then ?_ | with_reducible refine r_block ?_ | with_reducible refine r_jump ?_))
      exact post1 rfl rfl ⟨_, rfl, rfl, u1⟩
    · refine x_lssF (by rfl) (by rfl) (by rfl) h1 ?_
      repeat (first | refine x_move (by rfl) ?_ | refine x_as (by rfl) (by rfl) ?_ | refine x_skip (by rfl) ?_ | refine x_fld (by rfl) (by rfl) FldO.h ?_ | refine x_nilck (by rfl) (by rfl) ?_ | refine x_len (by rfl) (by rfl) ElOf.some ?_ | refine x_ext (by rfl) (by rfl) (by rfl) ?_ | refine x_pickT (by rfl) (by rfl) (by rfl) ?_ | refine x_pickF (by rfl) (by rfl) (by rfl) ?_ | refine x_add (by rfl) (by rfl) (by rfl) (by omega) ?_ | refine x_sub (by rfl) (by rfl) (by rfl) (by omega) ?_ | refine x_not (by rfl) (by rfl) ?_)
      refine x_gtrT (by rfl) (by rfl) (by rfl) (by omega) ?_
      repeat (first | refine x_move (by rfl) ?_ | refine x_as (by rfl) (by rfl) ?_ | refine x_skip (by rfl) ?_ | refine x_fld (by rfl) (by rfl) FldO.h ?_ | refine x_nilck (by rfl) (by rfl) ?_ | refine x_len (by rfl) (by rfl) ElOf.some ?_ | refine x_ext (by rfl) (by rfl) (by rfl) ?_ | refine x_pickT (by rfl) (by rfl) (by rfl) ?_ | refine x_pickF (by rfl) (by rfl) (by rfl) ?_ | refine x_add (by rfl) (by rfl) (by rfl) (by omega) ?_ | refine x_sub (by rfl) (by rfl) (by rfl) (by omega) ?_ | refine x_not (by rfl) (by rfl) ?_)
      refine x_nilw ?_
      (repeat (first | refine swp_seq ?_ | refine swp_block ?_))
      refine swp_true (by rfl) ?_
      (repeat (first | refine swp_seq ?_ | refine swp_block ?_)); refine swp_region (by kernel_rfl) ?_
      repeat (first | refine x_move (by rfl) ?_ | refine x_as (by rfl) (by rfl) ?_ | refine x_skip (by rfl) ?_ | refine x_fld (by rfl) (by rfl) FldO.h ?_ | refine x_nilck (by rfl) (by rfl) ?_ | refine x_len (by rfl) (by rfl) ElOf.some ?_ | refine x_ext (by rfl) (by rfl) (by rfl) ?_ | refine x_pickT (by rfl) (by rfl) (by rfl) ?_ | refine x_pickF (by rfl) (by rfl) (by rfl) ?_ | refine x_add (by rfl) (by rfl) (by rfl) (by omega) ?_ | refine x_sub (by rfl) (by rfl) (by rfl) (by omega) ?_ | refine x_not (by rfl) (by rfl) ?_)
      refine x_eqlT (by rfl) (by rfl) (by rfl) rfl ?_
      repeat (first | refine x_move (by rfl) ?_ | refine x_as (by rfl) (by rfl) ?_ | refine x_skip (by rfl) ?_ | refine x_fld (by rfl) (by rfl) FldO.h ?_ | refine x_nilck (by rfl) (by rfl) ?_ | refine x_len (by rfl) (by rfl) ElOf.some ?_ | refine x_ext (by rfl) (by rfl) (by rfl) ?_ | refine x_pickT (by rfl) (by rfl) (by rfl) ?_ | refine x_pickF (by rfl) (by rfl) (by rfl) ?_ | refine x_add (by rfl) (by rfl) (by rfl) (by omega) ?_ | refine x_sub (by rfl) (by rfl) (by rfl) (by omega) ?_ | refine x_not (by rfl) (by rfl) ?_)
      refine x_eqlN Try.underlying22 (by rfl) (by rfl) (by rfl) ?_
      repeat (first | refine x_move (by rfl) ?_ | refine x_as (by rfl) (by rfl) ?_ | refine x_skip (by rfl) ?_ | refine x_fld (by rfl) (by rfl) FldO.h ?_ | refine x_nilck (by rfl) (by rfl) ?_ | refine x_len (by rfl) (by rfl) ElOf.some ?_ | refine x_ext (by rfl) (by rfl) (by rfl) ?_ | refine x_pickT (by rfl) (by rfl) (by rfl) ?_ | refine x_pickF (by rfl) (by rfl) (by rfl) ?_ | refine x_add (by rfl) (by rfl) (by rfl) (by omega) ?_ | refine x_sub (by rfl) (by rfl) (by rfl) (by omega) ?_ | refine x_not (by rfl) (by rfl) ?_)
      refine x_nilw ?_
      refine swp_ret ?_; (repeat (first | with_reducible refine r_then ?_ | with_reducible refine r_block ?_ | with_reducible refine r_jump ?_))
      exact post1 rfl rfl ⟨_, rfl, rfl, u1⟩
  repeat (first | refine x_move (by rfl) ?_ | refine x_as (by rfl) (by rfl) ?_ | refine x_skip (by rfl) ?_ | refine x_fld (by rfl) (by rfl) FldO.h ?_ | refine x_nilck (by rfl) (by rfl) ?_ | refine x_len (by rfl) (by rfl) ElOf.some ?_ | refine x_ext (by rfl) (by rfl) (by rfl) ?_ | refine x_pickT (by rfl) (by rfl) (by rfl) ?_ | refine x_pickF (by rfl) (by rfl) (by rfl) ?_ | refine x_add (by rfl) (by rfl) (by rfl) (by omega) ?_ | refine x_sub (by rfl) (by rfl) (by rfl) (by omega) ?_ | refine x_not (by rfl) (by rfl) ?_)
  refine x_nilw ?_
  refine swp_fit [(0, .int .i64 cap), (1, .slice a0 xs.length c0), (5, .pointer (some ⟨bg, 0, none⟩)), (6, .int .i64 0)] ⟨rfl, rfl, rfl, rfl, trivial⟩ fun ρ => ?_
  (repeat (first | refine swp_seq ?_ | refine swp_block ?_)); refine swp_region (by kernel_rfl) ?_
  repeat (first | refine x_move (by rfl) ?_ | refine x_as (by rfl) (by rfl) ?_ | refine x_skip (by rfl) ?_ | refine x_fld (by rfl) (by rfl) FldO.h ?_ | refine x_nilck (by rfl) (by rfl) ?_ | refine x_len (by rfl) (by rfl) ElOf.some ?_ | refine x_ext (by rfl) (by rfl) (by rfl) ?_ | refine x_pickT (by rfl) (by rfl) (by rfl) ?_ | refine x_pickF (by rfl) (by rfl) (by rfl) ?_ | refine x_add (by rfl) (by rfl) (by rfl) (by omega) ?_ | refine x_sub (by rfl) (by rfl) (by rfl) (by omega) ?_ | refine x_not (by rfl) (by rfl) ?_)
  refine x_lssF (by rfl) (by rfl) (by rfl) (by omega) ?_
  repeat (first | refine x_move (by rfl) ?_ | refine x_as (by rfl) (by rfl) ?_ | refine x_skip (by rfl) ?_ | refine x_fld (by rfl) (by rfl) FldO.h ?_ | refine x_nilck (by rfl) (by rfl) ?_ | refine x_len (by rfl) (by rfl) ElOf.some ?_ | refine x_ext (by rfl) (by rfl) (by rfl) ?_ | refine x_pickT (by rfl) (by rfl) (by rfl) ?_ | refine x_pickF (by rfl) (by rfl) (by rfl) ?_ | refine x_add (by rfl) (by rfl) (by rfl) (by omega) ?_ | refine x_sub (by rfl) (by rfl) (by rfl) (by omega) ?_ | refine x_not (by rfl) (by rfl) ?_)
  refine x_gtrF (by rfl) (by rfl) (by rfl) (by omega) ?_
  repeat (first | refine x_move (by rfl) ?_ | refine x_as (by rfl) (by rfl) ?_ | refine x_skip (by rfl) ?_ | refine x_fld (by rfl) (by rfl) FldO.h ?_ | refine x_nilck (by rfl) (by rfl) ?_ | refine x_len (by rfl) (by rfl) ElOf.some ?_ | refine x_ext (by rfl) (by rfl) (by rfl) ?_ | refine x_pickT (by rfl) (by rfl) (by rfl) ?_ | refine x_pickF (by rfl) (by rfl) (by rfl) ?_ | refine x_add (by rfl) (by rfl) (by rfl) (by omega) ?_ | refine x_sub (by rfl) (by rfl) (by rfl) (by omega) ?_ | refine x_not (by rfl) (by rfl) ?_)
  refine x_nilw ?_
  (repeat (first | refine swp_seq ?_ | refine swp_block ?_))
  refine swp_false (by rfl) (swp_skip ?_)
  (repeat (first | with_reducible refine n_then ?_ | with_reducible refine n_block ?_ | with_reducible refine n_jump ?_))
  (repeat (first | refine swp_seq ?_ | refine swp_block ?_)); refine swp_region (by kernel_rfl) ?_
  repeat (first | refine x_move (by rfl) ?_ | refine x_as (by rfl) (by rfl) ?_ | refine x_skip (by rfl) ?_ | refine x_fld (by rfl) (by rfl) FldO.h ?_ | refine x_nilck (by rfl) (by rfl) ?_ | refine x_len (by rfl) (by rfl) ElOf.some ?_ | refine x_ext (by rfl) (by rfl) (by rfl) ?_ | refine x_pickT (by rfl) (by rfl) (by rfl) ?_ | refine x_pickF (by rfl) (by rfl) (by rfl) ?_ | refine x_add (by rfl) (by rfl) (by rfl) (by omega) ?_ | refine x_sub (by rfl) (by rfl) (by rfl) (by omega) ?_ | refine x_not (by rfl) (by rfl) ?_)
  refine x_neqF (by rfl) (by rfl) (by rfl) (fun h => h rfl) ?_
  repeat (first | refine x_move (by rfl) ?_ | refine x_as (by rfl) (by rfl) ?_ | refine x_skip (by rfl) ?_ | refine x_fld (by rfl) (by rfl) FldO.h ?_ | refine x_nilck (by rfl) (by rfl) ?_ | refine x_len (by rfl) (by rfl) ElOf.some ?_ | refine x_ext (by rfl) (by rfl) (by rfl) ?_ | refine x_pickT (by rfl) (by rfl) (by rfl) ?_ | refine x_pickF (by rfl) (by rfl) (by rfl) ?_ | refine x_add (by rfl) (by rfl) (by rfl) (by omega) ?_ | refine x_sub (by rfl) (by rfl) (by rfl) (by omega) ?_ | refine x_not (by rfl) (by rfl) ?_)
  refine x_eqlP Try.underlying22 (by rfl) (by rfl) (by rfl) ?_
  repeat (first | refine x_move (by rfl) ?_ | refine x_as (by rfl) (by rfl) ?_ | refine x_skip (by rfl) ?_ | refine x_fld (by rfl) (by rfl) FldO.h ?_ | refine x_nilck (by rfl) (by rfl) ?_ | refine x_len (by rfl) (by rfl) ElOf.some ?_ | refine x_ext (by rfl) (by rfl) (by rfl) ?_ | refine x_pickT (by rfl) (by rfl) (by rfl) ?_ | refine x_pickF (by rfl) (by rfl) (by rfl) ?_ | refine x_add (by rfl) (by rfl) (by rfl) (by omega) ?_ | refine x_sub (by rfl) (by rfl) (by rfl) (by omega) ?_ | refine x_not (by rfl) (by rfl) ?_)
  refine x_nilw ?_
  (repeat (first | refine swp_seq ?_ | refine swp_block ?_))
  refine swp_false (by rfl) (swp_skip ?_)
  (repeat (first | with_reducible refine n_then ?_ | with_reducible refine n_block ?_ | with_reducible refine n_jump ?_))
  (repeat (first | refine swp_seq ?_ | refine swp_block ?_)); refine swp_region (by kernel_rfl) ?_
  refine x_build (v := .agg [.slice none 0 0, .slice none 0 0, .int .i64 noM, .bool false].toArray) (by rfl) (by rfl) (fun _ => by kernel_rfl) ?_
  refine w_boxA (by rfl) (by rfl) (by rfl) ?_; intro bt w2 e2 u2 h2
  repeat (first | refine x_move (by rfl) ?_ | refine x_as (by rfl) (by rfl) ?_ | refine x_skip (by rfl) ?_ | refine x_fld (by rfl) (by rfl) FldO.h ?_ | refine x_nilck (by rfl) (by rfl) ?_ | refine x_len (by rfl) (by rfl) ElOf.some ?_ | refine x_ext (by rfl) (by rfl) (by rfl) ?_ | refine x_pickT (by rfl) (by rfl) (by rfl) ?_ | refine x_pickF (by rfl) (by rfl) (by rfl) ?_ | refine x_add (by rfl) (by rfl) (by rfl) (by omega) ?_ | refine x_sub (by rfl) (by rfl) (by rfl) (by omega) ?_ | refine x_not (by rfl) (by rfl) ?_)
  refine x_nilw ?_
  have s1 := u1.size
  have hgl : ∀ b, gfoot bg r bp sp b → b < w1.heap.size := fun b hb => g1.lt hb
  have htf : ∀ b, tfoot bt (.slice none 0 0) (.slice none 0 0) b → b = bt := fun b hb => by
    rcases hb with hb | hb | hb
    · exact hb
    · exact hb.elim
    · exact hb.elim
  have tg2 : TG w w2 bt bg r bp cap 0 := ⟨sp, .slice none 0 0, .slice none 0 0, [], [], noM, false, fresh cap, 0, ⟨⟨h2, Own.nil _ _ _, Own.nil _ _ _, fun b hb => hb.elim, fun b hb => hb.elim⟩, g1.at u2, fresh_ok hc.1 hc.2, ⟨List.Perm.refl _, List.Pairwise.nil, rfl, fun _ => ⟨rfl, fun x hx => by cases hx⟩, fun h => by cases h⟩, by omega, by simp, fun b hb hb' => by have := htf b hb; have := hgl b hb'; omega, fun b hb => by have := htf b hb; omega, hf1, u1.trans u2⟩, rfl⟩
  refine swp_fit [(0, .int .i64 cap), (1, .slice a0 xs.length c0), (5, .pointer (some ⟨bg, 0, none⟩)), (7, .pointer (some ⟨bt, 0, none⟩))] ⟨rfl, rfl, rfl, rfl, trivial⟩ fun ρ => ?_
  (repeat (first | refine swp_seq ?_ | refine swp_block ?_)); refine swp_region (by kernel_rfl) ?_
  repeat (first | refine x_move (by rfl) ?_ | refine x_as (by rfl) (by rfl) ?_ | refine x_skip (by rfl) ?_ | refine x_fld (by rfl) (by rfl) FldO.h ?_ | refine x_nilck (by rfl) (by rfl) ?_ | refine x_len (by rfl) (by rfl) ElOf.some ?_ | refine x_ext (by rfl) (by rfl) (by rfl) ?_ | refine x_pickT (by rfl) (by rfl) (by rfl) ?_ | refine x_pickF (by rfl) (by rfl) (by rfl) ?_ | refine x_add (by rfl) (by rfl) (by rfl) (by omega) ?_ | refine x_sub (by rfl) (by rfl) (by rfl) (by omega) ?_ | refine x_not (by rfl) (by rfl) ?_)
  refine x_nilw ?_
  (repeat (first | refine swp_seq ?_ | refine swp_block ?_))
  refine swp_loop (fun (i : Nat) σ w3 => At σ [(0, .int .i64 cap), (1, .slice a0 xs.length c0), (5, .pointer (some ⟨bg, 0, none⟩)), (7, .pointer (some ⟨bt, 0, none⟩)), (8, .int .i64 (i : Nat))] ∧ i ≤ xs.length ∧ TG w w3 bt bg r bp cap i ∧ Ext w w3) (fun i => xs.length - i) 0 ⟨at_ ⟨rfl, rfl, rfl, rfl, rfl, trivial⟩, by omega, tg2, u1.trans u2⟩ ?_
  rintro i σ w3 ⟨⟨ρ, rfl⟩, hi, tg3, u3⟩
  have g3 := h.at u3
  (repeat (first | refine swp_seq ?_ | refine swp_block ?_)); refine swp_region (by kernel_rfl) ?_
  repeat (first | refine x_move (by rfl) ?_ | refine x_as (by rfl) (by rfl) ?_ | refine x_skip (by rfl) ?_ | refine x_fld (by rfl) (by rfl) FldO.h ?_ | refine w_load (by rfl) (by rfl) (load_one OneT.h (by assumption) (by rfl)) ?_ | refine x_nilck (by rfl) (by rfl) ?_ | refine x_len (by rfl) (by rfl) ElOf.some ?_ | refine x_iface (by rfl) (by rfl) NIf.h ?_ | refine x_ext (by rfl) (by rfl) (by rfl) ?_ | refine x_pickT (by rfl) (by rfl) (by rfl) ?_ | refine x_pickF (by rfl) (by rfl) (by rfl) ?_ | refine x_add (by rfl) (by rfl) (by rfl) (by omega) ?_ | refine x_sub (by rfl) (by rfl) (by rfl) (by omega) ?_ | refine x_lss (by rfl) (by rfl) (by rfl) ?_ | refine x_geq (by rfl) (by rfl) (by rfl) ?_ | refine x_leq (by rfl) (by rfl) (by rfl) ?_ | refine x_gtr (by rfl) (by rfl) (by rfl) ?_ | refine x_eql (by rfl) (by rfl) (by rfl) ?_ | refine x_neq (by rfl) (by rfl) (by rfl) ?_ | refine x_not (by rfl) (by rfl) ?_)
  refine x_nilw ?_
  (repeat (first | refine swp_seq ?_ | refine swp_block ?_))
  refine swp_if (by rfl) (fun h0 => swp_skip ?_) (fun h0 => ?_)
  · have hi' : i < xs.length := by omega
    obtain ⟨o, ho⟩ := nthE hi'
    obtain ⟨b1, o1, d1, he1, -, -⟩ := h.pos (by omega)
    simp only [Value.slice.injEq] at he1
    obtain ⟨rfl, _, rfl⟩ := he1
    (repeat (first | with_reducible refine n_then ?_ | with_reducible refine n_block ?_ | with_reducible refine n_jump ?_))
    (repeat (first | refine swp_seq ?_ | refine swp_block ?_)); refine swp_region (by kernel_rfl) ?_
    repeat (first | refine x_move (by rfl) ?_ | refine x_as (by rfl) (by rfl) ?_ | refine x_skip (by rfl) ?_ | refine x_fld (by rfl) (by rfl) FldO.h ?_ | refine x_nilck (by rfl) (by rfl) ?_ | refine x_len (by rfl) (by rfl) ElOf.some ?_ | refine x_ext (by rfl) (by rfl) (by rfl) ?_ | refine x_pickT (by rfl) (by rfl) (by rfl) ?_ | refine x_pickF (by rfl) (by rfl) (by rfl) ?_ | refine x_add (by rfl) (by rfl) (by rfl) (by omega) ?_ | refine x_sub (by rfl) (by rfl) (by rfl) (by omega) ?_ | refine x_not (by rfl) (by rfl) ?_)
    refine x_idx i (by rfl) (by rfl) (by rfl) ElSz.h rfl hi' ?_
    refine w_load (by rfl) (by rfl) (rd_load gop_len AggT.h g3 ho rfl rfl) ?_
    refine w_call (by rfl) (by rfl) (by rfl) (tstep o tg3 (hr.le (by omega)) (by omega)) ?_
    rintro _ w4 ⟨rfl, sp4, av, tv, A, T, m, c, g, N, tl, hcap⟩
    repeat (first | refine x_move (by rfl) ?_ | refine x_as (by rfl) (by rfl) ?_ | refine x_skip (by rfl) ?_ | refine x_fld (by rfl) (by rfl) FldO.h ?_ | refine x_nilck (by rfl) (by rfl) ?_ | refine x_len (by rfl) (by rfl) ElOf.some ?_ | refine x_ext (by rfl) (by rfl) (by rfl) ?_ | refine x_pickT (by rfl) (by rfl) (by rfl) ?_ | refine x_pickF (by rfl) (by rfl) (by rfl) ?_ | refine x_add (by rfl) (by rfl) (by rfl) (by omega) ?_ | refine x_sub (by rfl) (by rfl) (by rfl) (by omega) ?_ | refine x_not (by rfl) (by rfl) ?_)
    refine x_nilw ?_
    (repeat (first | refine swp_seq ?_ | refine swp_block ?_)); refine swp_region (by kernel_rfl) ?_
    repeat (first | refine x_move (by rfl) ?_ | refine x_as (by rfl) (by rfl) ?_ | refine x_skip (by rfl) ?_ | refine x_fld (by rfl) (by rfl) FldO.h ?_ | refine x_nilck (by rfl) (by rfl) ?_ | refine x_len (by rfl) (by rfl) ElOf.some ?_ | refine x_ext (by rfl) (by rfl) (by rfl) ?_ | refine x_pickT (by rfl) (by rfl) (by rfl) ?_ | refine x_pickF (by rfl) (by rfl) (by rfl) ?_ | refine x_add (by rfl) (by rfl) (by rfl) (by omega) ?_ | refine x_sub (by rfl) (by rfl) (by rfl) (by omega) ?_ | refine x_not (by rfl) (by rfl) ?_)
    refine x_nilw ?_
    (repeat (first | refine swp_seq ?_ | refine swp_block ?_))
    refine swp_false (by rfl) (swp_skip ?_)
    (repeat (first | with_reducible refine n_then ?_ | with_reducible refine n_block ?_ | with_reducible refine n_jump ?_))
    refine swp_fit [(0, .int .i64 cap), (1, .slice (some ⟨b1, o1, none⟩) xs.length c0), (5, .pointer (some ⟨bg, 0, none⟩)), (7, .pointer (some ⟨bt, 0, none⟩)), (8, .int .i64 (i : Nat))] ⟨rfl, rfl, rfl, rfl, rfl, trivial⟩ fun ρ => ?_
    have hAn := tl.hA
    obtain ⟨hcnt, hmem⟩ := tl.si.told tl.ok
    have hTA : T.length ≤ A.length := by have := tl.si.len; omega
    obtain ⟨aa, ac, hav⟩ := tl.t.oa.slice
    subst hav
    (repeat (first | refine swp_seq ?_ | refine swp_block ?_)); refine swp_region (by kernel_rfl) ?_
    repeat (first | refine x_move (by rfl) ?_ | refine x_as (by rfl) (by rfl) ?_ | refine x_skip (by rfl) ?_ | refine x_fld (by rfl) (by rfl) FldO.h ?_ | refine x_nilck (by rfl) (by rfl) ?_ | refine x_len (by rfl) (by rfl) ElOf.some ?_ | refine x_ext (by rfl) (by rfl) (by rfl) ?_ | refine x_pickT (by rfl) (by rfl) (by rfl) ?_ | refine x_pickF (by rfl) (by rfl) (by rfl) ?_ | refine x_add (by rfl) (by rfl) (by rfl) (by omega) ?_ | refine x_sub (by rfl) (by rfl) (by rfl) (by omega) ?_ | refine x_not (by rfl) (by rfl) ?_)
    refine x_nilw ?_
    (repeat (first | refine swp_seq ?_ | refine swp_block ?_)); refine swp_region (by kernel_rfl) ?_
    repeat (first | refine x_move (by rfl) ?_ | refine x_as (by rfl) (by rfl) ?_ | refine x_skip (by rfl) ?_ | refine x_fld (by rfl) (by rfl) FldO.h ?_ | refine x_nilck (by rfl) (by rfl) ?_ | refine x_len (by rfl) (by rfl) ElOf.some ?_ | refine x_ext (by rfl) (by rfl) (by rfl) ?_ | refine x_pickT (by rfl) (by rfl) (by rfl) ?_ | refine x_pickF (by rfl) (by rfl) (by rfl) ?_ | refine x_add (by rfl) (by rfl) (by rfl) (by omega) ?_ | refine x_sub (by rfl) (by rfl) (by rfl) (by omega) ?_ | refine x_not (by rfl) (by rfl) ?_)
    refine x_nilw ?_
    (repeat (first | refine swp_seq ?_ | refine swp_block ?_))
    refine swp_loop (fun (j : Nat) σ w5 => At σ [(0, .int .i64 cap), (1, .slice (some ⟨b1, o1, none⟩) xs.length c0), (5, .pointer (some ⟨bg, 0, none⟩)), (7, .pointer (some ⟨bt, 0, none⟩)), (8, .int .i64 (i : Nat)), (10, .int .i64 (((A.take j).filter (pT m c)).length : Nat)), (11, .int .i64 (j : Nat))] ∧ j ≤ A.length ∧ Ext w4 w5) (fun j => A.length - j) 0 ⟨at_ ⟨rfl, rfl, rfl, rfl, rfl, rfl, rfl, trivial⟩, by omega, Upd.refl _ _⟩ ?_
    rintro j σ w5 ⟨⟨ρ, rfl⟩, hj, u5⟩
    have t5 := tl.t.at u5
    (repeat (first | refine swp_seq ?_ | refine swp_block ?_)); refine swp_region (by kernel_rfl) ?_
    repeat (first | refine x_move (by rfl) ?_ | refine x_as (by rfl) (by rfl) ?_ | refine x_skip (by rfl) ?_ | refine x_fld (by rfl) (by rfl) FldO.h ?_ | refine x_nilck (by rfl) (by rfl) ?_ | refine x_len (by rfl) (by rfl) ElOf.some ?_ | refine x_ext (by rfl) (by rfl) (by rfl) ?_ | refine x_pickT (by rfl) (by rfl) (by rfl) ?_ | refine x_pickF (by rfl) (by rfl) (by rfl) ?_ | refine x_add (by rfl) (by rfl) (by rfl) (by omega) ?_ | refine x_sub (by rfl) (by rfl) (by rfl) (by omega) ?_ | refine x_not (by rfl) (by rfl) ?_)
    refine w_load (by rfl) (by rfl) (load_one OneT.h t5.blk (by rfl)) ?_
    repeat (first | refine x_move (by rfl) ?_ | refine x_as (by rfl) (by rfl) ?_ | refine x_skip (by rfl) ?_ | refine x_fld (by rfl) (by rfl) FldO.h ?_ | refine w_load (by rfl) (by rfl) (load_one OneT.h (by assumption) (by rfl)) ?_ | refine x_nilck (by rfl) (by rfl) ?_ | refine x_len (by rfl) (by rfl) ElOf.some ?_ | refine x_iface (by rfl) (by rfl) NIf.h ?_ | refine x_ext (by rfl) (by rfl) (by rfl) ?_ | refine x_pickT (by rfl) (by rfl) (by rfl) ?_ | refine x_pickF (by rfl) (by rfl) (by rfl) ?_ | refine x_add (by rfl) (by rfl) (by rfl) (by omega) ?_ | refine x_sub (by rfl) (by rfl) (by rfl) (by omega) ?_ | refine x_lss (by rfl) (by rfl) (by rfl) ?_ | refine x_geq (by rfl) (by rfl) (by rfl) ?_ | refine x_leq (by rfl) (by rfl) (by rfl) ?_ | refine x_gtr (by rfl) (by rfl) (by rfl) ?_ | refine x_eql (by rfl) (by rfl) (by rfl) ?_ | refine x_neq (by rfl) (by rfl) (by rfl) ?_ | refine x_not (by rfl) (by rfl) ?_)
    refine x_nilw ?_
    (repeat (first | refine swp_seq ?_ | refine swp_block ?_))
    refine swp_if (by rfl) (fun hc0 => swp_skip ?_) (fun hc0 => ?_)
    · have hj' : j < A.length := by omega
      obtain ⟨x, hx⟩ := nthE hj'
      have hrdA := t5.oa.rd
      obtain ⟨b2, o2, d2, he2, -, -⟩ := hrdA.pos (by omega)
      simp only [Value.slice.injEq] at he2
      obtain ⟨rfl, _, rfl⟩ := he2
      have hlen := filter_len (pT m c) A j
      have hft := filter_take (p := pT m c) hx
      (repeat (first | with_reducible refine n_then ?_ | with_reducible refine n_block ?_ | with_reducible refine n_jump ?_))
      (repeat (first | refine swp_seq ?_ | refine swp_block ?_)); refine swp_region (by kernel_rfl) ?_
      repeat (first | refine x_move (by rfl) ?_ | refine x_as (by rfl) (by rfl) ?_ | refine x_skip (by rfl) ?_ | refine x_fld (by rfl) (by rfl) FldO.h ?_ | refine x_nilck (by rfl) (by rfl) ?_ | refine x_len (by rfl) (by rfl) ElOf.some ?_ | refine x_ext (by rfl) (by rfl) (by rfl) ?_ | refine x_pickT (by rfl) (by rfl) (by rfl) ?_ | refine x_pickF (by rfl) (by rfl) (by rfl) ?_ | refine x_add (by rfl) (by rfl) (by rfl) (by omega) ?_ | refine x_sub (by rfl) (by rfl) (by rfl) (by omega) ?_ | refine x_not (by rfl) (by rfl) ?_)
      refine w_load (by rfl) (by rfl) (load_one OneT.h t5.blk (by rfl)) ?_
      repeat (first | refine x_move (by rfl) ?_ | refine x_as (by rfl) (by rfl) ?_ | refine x_skip (by rfl) ?_ | refine x_fld (by rfl) (by rfl) FldO.h ?_ | refine x_nilck (by rfl) (by rfl) ?_ | refine x_len (by rfl) (by rfl) ElOf.some ?_ | refine x_ext (by rfl) (by rfl) (by rfl) ?_ | refine x_pickT (by rfl) (by rfl) (by rfl) ?_ | refine x_pickF (by rfl) (by rfl) (by rfl) ?_ | refine x_add (by rfl) (by rfl) (by rfl) (by omega) ?_ | refine x_sub (by rfl) (by rfl) (by rfl) (by omega) ?_ | refine x_not (by rfl) (by rfl) ?_)
      refine x_idx j (by rfl) (by rfl) (by rfl) ElSz.h rfl hj' ?_
      refine w_load (by rfl) (by rfl) (rd_load ev_len AggT.h hrdA hx rfl rfl) ?_
      refine w_alloc (by rfl) (by rfl) ZeroT.h ?_; intro b6 w6 e6 u6 h6
      refine w_store (xs := x.cells) (by rfl) (by rfl) (by rfl) (by rfl) SzT.h (by rfl) (by rfl) h6 (by simp) ?_
      intro w7 u7 h7 _
      refine x_nilw ?_
      replace h7 : Blk w7 b6 30 x.cells := h7
      have u57 : Ext w5 w7 := u6.trans' u7 fun b hb e => by have e' : b = b6 := e; omega
      have t7 := t5.at u57
      refine swp_fit [(0, .int .i64 cap), (1, .slice (some ⟨b1, o1, none⟩) xs.length c0), (5, .pointer (some ⟨bg, 0, none⟩)), (7, .pointer (some ⟨bt, 0, none⟩)), (8, .int .i64 (i : Nat)), (10, .int .i64 (((A.take j).filter (pT m c)).length : Nat)), (11, .int .i64 (j : Nat)), (12, .pointer (some ⟨b6, 0, none⟩))] ⟨rfl, rfl, rfl, rfl, rfl, rfl, rfl, rfl, trivial⟩ fun ρ => ?_
      (repeat (first | refine swp_seq ?_ | refine swp_block ?_))
      refine PEv.swp_cutQ (fun σ w8 => At σ [(0, .int .i64 cap), (1, .slice (some ⟨b1, o1, none⟩) xs.length c0), (5, .pointer (some ⟨bg, 0, none⟩)), (7, .pointer (some ⟨bt, 0, none⟩)), (8, .int .i64 (i : Nat)), (10, .int .i64 (((A.take j).filter (pT m c)).length : Nat)), (11, .int .i64 (j : Nat)), (12, .pointer (some ⟨b6, 0, none⟩)), (82, .bool (pT m c x))] ∧ Ext w7 w8) ?_ ?_
      · (repeat (first | refine swp_seq ?_ | refine swp_block ?_)); refine swp_draw (Ext w7) [] Mixed.h (by kernel_rfl) (by kernel_rfl) (ext_drew w7) ?_
        repeat (first | refine x_move (by rfl) ?_ | refine x_as (by rfl) (by rfl) ?_ | refine x_skip (by rfl) ?_ | refine x_fld (by rfl) (by rfl) FldO.h ?_ | refine x_nilck (by rfl) (by rfl) ?_ | refine x_len (by rfl) (by rfl) ElOf.some ?_ | refine x_ext (by rfl) (by rfl) (by rfl) ?_ | refine x_pickT (by rfl) (by rfl) (by rfl) ?_ | refine x_pickF (by rfl) (by rfl) (by rfl) ?_ | refine x_add (by rfl) (by rfl) (by rfl) (by omega) ?_ | refine x_sub (by rfl) (by rfl) (by rfl) (by omega) ?_ | refine x_not (by rfl) (by rfl) ?_)
        refine q_load (v := .int .i64 x.ts) (by rfl) (by rfl) (by rfl) (fun w' hw' => load_one OneT.h (h7.at hw') (by rfl)) ?_
        repeat (first | refine x_move (by rfl) ?_ | refine x_as (by rfl) (by rfl) ?_ | refine x_skip (by rfl) ?_ | refine x_fld (by rfl) (by rfl) FldO.h ?_ | refine x_nilck (by rfl) (by rfl) ?_ | refine x_len (by rfl) (by rfl) ElOf.some ?_ | refine x_ext (by rfl) (by rfl) (by rfl) ?_ | refine x_pickT (by rfl) (by rfl) (by rfl) ?_ | refine x_pickF (by rfl) (by rfl) (by rfl) ?_ | refine x_add (by rfl) (by rfl) (by rfl) (by omega) ?_ | refine x_sub (by rfl) (by rfl) (by rfl) (by omega) ?_ | refine x_not (by rfl) (by rfl) ?_)
        refine q_load (v := .int .i64 m) (by rfl) (by rfl) (by rfl) (fun w' hw' => load_one OneT.h (t7.blk.at hw') (by rfl)) ?_
        by_cases hx1 : x.ts ≤ m
        · refine x_leqT (by rfl) (by rfl) (by rfl) hx1 ?_
          repeat (first | refine x_move (by rfl) ?_ | refine x_as (by rfl) (by rfl) ?_ | refine x_skip (by rfl) ?_ | refine x_fld (by rfl) (by rfl) FldO.h ?_ | refine x_nilck (by rfl) (by rfl) ?_ | refine x_len (by rfl) (by rfl) ElOf.some ?_ | refine x_ext (by rfl) (by rfl) (by rfl) ?_ | refine x_pickT (by rfl) (by rfl) (by rfl) ?_ | refine x_pickF (by rfl) (by rfl) (by rfl) ?_ | refine x_add (by rfl) (by rfl) (by rfl) (by omega) ?_ | refine x_sub (by rfl) (by rfl) (by rfl) (by omega) ?_ | refine x_not (by rfl) (by rfl) ?_)
          refine x_nil fun w8 u8 => ?_
          rw [show pT m c x = true by simp [pT, hx1]]
          exact ⟨rfl, at_ ⟨rfl, rfl, rfl, rfl, rfl, rfl, rfl, rfl, rfl, trivial⟩, u8⟩
        · refine x_leqF (by rfl) (by rfl) (by rfl) hx1 ?_
          repeat (first | refine x_move (by rfl) ?_ | refine x_as (by rfl) (by rfl) ?_ | refine x_skip (by rfl) ?_ | refine x_fld (by rfl) (by rfl) FldO.h ?_ | refine x_nilck (by rfl) (by rfl) ?_ | refine x_len (by rfl) (by rfl) ElOf.some ?_ | refine x_ext (by rfl) (by rfl) (by rfl) ?_ | refine x_pickT (by rfl) (by rfl) (by rfl) ?_ | refine x_pickF (by rfl) (by rfl) (by rfl) ?_ | refine x_add (by rfl) (by rfl) (by rfl) (by omega) ?_ | refine x_sub (by rfl) (by rfl) (by rfl) (by omega) ?_ | refine x_not (by rfl) (by rfl) ?_)
          refine q_load (v := .bool c) (by rfl) (by rfl) (by rfl) (fun w' hw' => load_one OneT.h (t7.blk.at hw') (by rfl)) ?_
          repeat (first | refine x_move (by rfl) ?_ | refine x_as (by rfl) (by rfl) ?_ | refine x_skip (by rfl) ?_ | refine x_fld (by rfl) (by rfl) FldO.h ?_ | refine x_nilck (by rfl) (by rfl) ?_ | refine x_len (by rfl) (by rfl) ElOf.some ?_ | refine x_ext (by rfl) (by rfl) (by rfl) ?_ | refine x_pickT (by rfl) (by rfl) (by rfl) ?_ | refine x_pickF (by rfl) (by rfl) (by rfl) ?_ | refine x_add (by rfl) (by rfl) (by rfl) (by omega) ?_ | refine x_sub (by rfl) (by rfl) (by rfl) (by omega) ?_ | refine x_not (by rfl) (by rfl) ?_)
          refine x_nil fun w8 u8 => ?_
          rw [show pT m c x = c by simp [pT, hx1]]
          exact ⟨rfl, at_ ⟨rfl, rfl, rfl, rfl, rfl, rfl, rfl, rfl, rfl, trivial⟩, u8⟩
      rintro σ w8 ⟨⟨ρ, rfl⟩, u8⟩
      refine n_then ?_
      have t8 := t7.at u8
      have h8 := h7.at u8
      have u48 := (u5.trans u57).trans u8
      cases hp : pT m c x with
      | true =>
        rw [hp, if_pos rfl] at hft
        refine swp_true (by rfl) ?_
        (repeat (first | refine swp_seq ?_ | refine swp_block ?_)); refine swp_region (by kernel_rfl) ?_
        repeat (first | refine x_move (by rfl) ?_ | refine x_as (by rfl) (by rfl) ?_ | refine x_skip (by rfl) ?_ | refine x_fld (by rfl) (by rfl) FldO.h ?_ | refine x_nilck (by rfl) (by rfl) ?_ | refine x_len (by rfl) (by rfl) ElOf.some ?_ | refine x_ext (by rfl) (by rfl) (by rfl) ?_ | refine x_pickT (by rfl) (by rfl) (by rfl) ?_ | refine x_pickF (by rfl) (by rfl) (by rfl) ?_ | refine x_add (by rfl) (by rfl) (by rfl) (by omega) ?_ | refine x_sub (by rfl) (by rfl) (by rfl) (by omega) ?_ | refine x_not (by rfl) (by rfl) ?_)
        refine x_nilw ?_
        have hxT := hmem x (List.mem_of_getElem? hx) hp
        (repeat (first | refine swp_seq ?_ | refine swp_block ?_)); refine swp_draw (Ext w8) [] Mixed.h (by kernel_rfl) (by kernel_rfl) (ext_drew w8) ?_
        repeat (first | refine x_move (by rfl) ?_ | refine x_as (by rfl) (by rfl) ?_ | refine x_skip (by rfl) ?_ | refine x_fld (by rfl) (by rfl) FldO.h ?_ | refine x_nilck (by rfl) (by rfl) ?_ | refine x_len (by rfl) (by rfl) ElOf.some ?_ | refine x_ext (by rfl) (by rfl) (by rfl) ?_ | refine x_pickT (by rfl) (by rfl) (by rfl) ?_ | refine x_pickF (by rfl) (by rfl) (by rfl) ?_ | refine x_add (by rfl) (by rfl) (by rfl) (by omega) ?_ | refine x_sub (by rfl) (by rfl) (by rfl) (by omega) ?_ | refine x_not (by rfl) (by rfl) ?_)
        refine q_load (v := tv) (by rfl) (by rfl) (by rfl) (fun w' hw' => load_one OneT.h (t8.blk.at hw') (by rfl)) ?_
        refine q_load (by rfl) (by rfl) (by rfl) (fun w' hw' => load_agg (xs := x.cells) AggT.h (h8.at hw') (by rfl) (by rfl)) ?_
        refine q_call (v := .bool true) (by rfl) (by rfl) (by rfl) (fun w' hw' => (in_ x (t8.ot.rd.at hw') hxT (by omega)).mono fun v w'' h => ⟨h.1, hw'.trans h.2⟩) ?_
        repeat (first | refine x_move (by rfl) ?_ | refine x_as (by rfl) (by rfl) ?_ | refine x_skip (by rfl) ?_ | refine x_fld (by rfl) (by rfl) FldO.h ?_ | refine x_nilck (by rfl) (by rfl) ?_ | refine x_len (by rfl) (by rfl) ElOf.some ?_ | refine x_ext (by rfl) (by rfl) (by rfl) ?_ | refine x_pickT (by rfl) (by rfl) (by rfl) ?_ | refine x_pickF (by rfl) (by rfl) (by rfl) ?_ | refine x_add (by rfl) (by rfl) (by rfl) (by omega) ?_ | refine x_sub (by rfl) (by rfl) (by rfl) (by omega) ?_ | refine x_not (by rfl) (by rfl) ?_)
        refine x_nil fun w9 u9 => ?_
        (repeat (first | refine swp_seq ?_ | refine swp_block ?_))
        refine swp_false (by rfl) (swp_skip ?_)
        (repeat (first | with_reducible refine n_then ?_ | with_reducible refine n_block ?_ | with_reducible refine n_jump ?_))
        refine swp_fit [(0, .int .i64 cap), (1, .slice (some ⟨b1, o1, none⟩) xs.length c0), (5, .pointer (some ⟨bg, 0, none⟩)), (7, .pointer (some ⟨bt, 0, none⟩)), (8, .int .i64 (i : Nat)), (10, .int .i64 ((((A.take j).filter (pT m c)).length : Nat) + 1)), (11, .int .i64 (j : Nat))] ⟨rfl, rfl, rfl, rfl, rfl, rfl, rfl, trivial⟩ fun ρ => ?_
        (repeat (first | refine swp_seq ?_ | refine swp_block ?_)); refine swp_region (by kernel_rfl) ?_
        repeat (first | refine x_move (by rfl) ?_ | refine x_as (by rfl) (by rfl) ?_ | refine x_skip (by rfl) ?_ | refine x_fld (by rfl) (by rfl) FldO.h ?_ | refine x_nilck (by rfl) (by rfl) ?_ | refine x_len (by rfl) (by rfl) ElOf.some ?_ | refine x_ext (by rfl) (by rfl) (by rfl) ?_ | refine x_pickT (by rfl) (by rfl) (by rfl) ?_ | refine x_pickF (by rfl) (by rfl) (by rfl) ?_ | refine x_add (by rfl) (by rfl) (by rfl) (by omega) ?_ | refine x_sub (by rfl) (by rfl) (by rfl) (by omega) ?_ | refine x_not (by rfl) (by rfl) ?_)
        refine x_nilw ?_
        refine ⟨j + 1, ⟨?_, by omega, u48.trans u9⟩, by omega⟩
        rw [hft, List.length_append]
        exact at_ ⟨rfl, rfl, rfl, rfl, rfl, rfl, rfl, trivial⟩
      | false =>
        rw [hp, if_neg (by decide), List.append_nil] at hft
        refine swp_false (by rfl) (swp_skip ?_)
        (repeat (first | with_reducible refine n_then ?_ | with_reducible refine n_block ?_ | with_reducible refine n_jump ?_))
        (repeat (first | refine swp_seq ?_ | refine swp_block ?_)); refine swp_region (by kernel_rfl) ?_
        repeat (first | refine x_move (by rfl) ?_ | refine x_as (by rfl) (by rfl) ?_ | refine x_skip (by rfl) ?_ | refine x_fld (by rfl) (by rfl) FldO.h ?_ | refine x_nilck (by rfl) (by rfl) ?_ | refine x_len (by rfl) (by rfl) ElOf.some ?_ | refine x_ext (by rfl) (by rfl) (by rfl) ?_ | refine x_pickT (by rfl) (by rfl) (by rfl) ?_ | refine x_pickF (by rfl) (by rfl) (by rfl) ?_ | refine x_add (by rfl) (by rfl) (by rfl) (by omega) ?_ | refine x_sub (by rfl) (by rfl) (by rfl) (by omega) ?_ | refine x_not (by rfl) (by rfl) ?_)
        refine x_nilw ?_
        refine ⟨j + 1, ⟨?_, by omega, u48⟩, by omega⟩
        rw [hft]
        exact at_ ⟨rfl, rfl, rfl, rfl, rfl, rfl, rfl, trivial⟩
    · have hjn : j = A.length := by omega
      subst hjn
      rw [List.take_length, hcnt]
      obtain ⟨ta, tc, htv⟩ := t5.ot.slice
      subst htv
      refine swp_exit ?_; (repeat (first | with_reducible refine e_then ?_ | with_reducible refine e_jump ?_)); refine e_block ?_; (repeat (first | with_reducible refine n_then ?_ | with_reducible refine n_block ?_ | with_reducible refine n_jump ?_))
      (repeat (first | refine swp_seq ?_ | refine swp_block ?_)); refine swp_region (by kernel_rfl) ?_
      repeat (first | refine x_move (by rfl) ?_ | refine x_as (by rfl) (by rfl) ?_ | refine x_skip (by rfl) ?_ | refine x_fld (by rfl) (by rfl) FldO.h ?_ | refine x_nilck (by rfl) (by rfl) ?_ | refine x_len (by rfl) (by rfl) ElOf.some ?_ | refine x_ext (by rfl) (by rfl) (by rfl) ?_ | refine x_pickT (by rfl) (by rfl) (by rfl) ?_ | refine x_pickF (by rfl) (by rfl) (by rfl) ?_ | refine x_add (by rfl) (by rfl) (by rfl) (by omega) ?_ | refine x_sub (by rfl) (by rfl) (by rfl) (by omega) ?_ | refine x_not (by rfl) (by rfl) ?_)
      refine w_load (by rfl) (by rfl) (load_one OneT.h t5.blk (by rfl)) ?_
      repeat (first | refine x_move (by rfl) ?_ | refine x_as (by rfl) (by rfl) ?_ | refine x_skip (by rfl) ?_ | refine x_fld (by rfl) (by rfl) FldO.h ?_ | refine x_nilck (by rfl) (by rfl) ?_ | refine x_len (by rfl) (by rfl) ElOf.some ?_ | refine x_ext (by rfl) (by rfl) (by rfl) ?_ | refine x_pickT (by rfl) (by rfl) (by rfl) ?_ | refine x_pickF (by rfl) (by rfl) (by rfl) ?_ | refine x_add (by rfl) (by rfl) (by rfl) (by omega) ?_ | refine x_sub (by rfl) (by rfl) (by rfl) (by omega) ?_ | refine x_not (by rfl) (by rfl) ?_)
      refine x_neqF (by rfl) (by rfl) (by rfl) (fun h => h rfl) ?_
      repeat (first | refine x_move (by rfl) ?_ | refine x_as (by rfl) (by rfl) ?_ | refine x_skip (by rfl) ?_ | refine x_fld (by rfl) (by rfl) FldO.h ?_ | refine x_nilck (by rfl) (by rfl) ?_ | refine x_len (by rfl) (by rfl) ElOf.some ?_ | refine x_ext (by rfl) (by rfl) (by rfl) ?_ | refine x_pickT (by rfl) (by rfl) (by rfl) ?_ | refine x_pickF (by rfl) (by rfl) (by rfl) ?_ | refine x_add (by rfl) (by rfl) (by rfl) (by omega) ?_ | refine x_sub (by rfl) (by rfl) (by rfl) (by omega) ?_ | refine x_not (by rfl) (by rfl) ?_)
      refine w_load (by rfl) (by rfl) (load_one OneT.h t5.blk (by rfl)) ?_
      refine w_call (by rfl) (by rfl) (by rfl) (rises t5.ot.rd (List.pairwise_append.1 tl.si.ris).1 (by omega)) ?_
      rintro _ w6 ⟨rfl, u6⟩
      repeat (first | refine x_move (by rfl) ?_ | refine x_as (by rfl) (by rfl) ?_ | refine x_skip (by rfl) ?_ | refine x_fld (by rfl) (by rfl) FldO.h ?_ | refine x_nilck (by rfl) (by rfl) ?_ | refine x_len (by rfl) (by rfl) ElOf.some ?_ | refine x_ext (by rfl) (by rfl) (by rfl) ?_ | refine x_pickT (by rfl) (by rfl) (by rfl) ?_ | refine x_pickF (by rfl) (by rfl) (by rfl) ?_ | refine x_add (by rfl) (by rfl) (by rfl) (by omega) ?_ | refine x_sub (by rfl) (by rfl) (by rfl) (by omega) ?_ | refine x_not (by rfl) (by rfl) ?_)
      refine x_nilw ?_
      (repeat (first | refine swp_seq ?_ | refine swp_block ?_))
      refine swp_false (by rfl) (swp_skip ?_)
      (repeat (first | with_reducible refine n_then ?_ | with_reducible refine n_block ?_ | with_reducible refine n_jump ?_))
      refine swp_fit [(0, .int .i64 cap), (1, .slice (some ⟨b1, o1, none⟩) xs.length c0), (5, .pointer (some ⟨bg, 0, none⟩)), (7, .pointer (some ⟨bt, 0, none⟩)), (8, .int .i64 (i : Nat))] ⟨rfl, rfl, rfl, rfl, rfl, trivial⟩ fun ρ => ?_
      (repeat (first | refine swp_seq ?_ | refine swp_block ?_)); refine swp_region (by kernel_rfl) ?_
      repeat (first | refine x_move (by rfl) ?_ | refine x_as (by rfl) (by rfl) ?_ | refine x_skip (by rfl) ?_ | refine x_fld (by rfl) (by rfl) FldO.h ?_ | refine x_nilck (by rfl) (by rfl) ?_ | refine x_len (by rfl) (by rfl) ElOf.some ?_ | refine x_ext (by rfl) (by rfl) (by rfl) ?_ | refine x_pickT (by rfl) (by rfl) (by rfl) ?_ | refine x_pickF (by rfl) (by rfl) (by rfl) ?_ | refine x_add (by rfl) (by rfl) (by rfl) (by omega) ?_ | refine x_sub (by rfl) (by rfl) (by rfl) (by omega) ?_ | refine x_not (by rfl) (by rfl) ?_)
      refine x_nilw ?_
      have u46 := u5.trans u6
      exact ⟨i + 1, ⟨at_ ⟨rfl, rfl, rfl, rfl, rfl, trivial⟩, by omega, ⟨sp4, _, _, A, T, m, c, g, N, tl.at u46, hcap⟩, tl.u.trans u46⟩, by omega⟩
  · refine swp_exit ?_; (repeat (first | with_reducible refine e_then ?_ | with_reducible refine e_jump ?_)); refine e_block ?_; (repeat (first | with_reducible refine n_then ?_ | with_reducible refine n_block ?_ | with_reducible refine n_jump ?_))
    (repeat (first | refine swp_seq ?_ | refine swp_block ?_)); refine swp_region (by kernel_rfl) ?_
    repeat (first | refine x_move (by rfl) ?_ | refine x_as (by rfl) (by rfl) ?_ | refine x_skip (by rfl) ?_ | refine x_fld (by rfl) (by rfl) FldO.h ?_ | refine x_nilck (by rfl) (by rfl) ?_ | refine x_len (by rfl) (by rfl) ElOf.some ?_ | refine x_ext (by rfl) (by rfl) (by rfl) ?_ | refine x_pickT (by rfl) (by rfl) (by rfl) ?_ | refine x_pickF (by rfl) (by rfl) (by rfl) ?_ | refine x_add (by rfl) (by rfl) (by rfl) (by omega) ?_ | refine x_sub (by rfl) (by rfl) (by rfl) (by omega) ?_ | refine x_not (by rfl) (by rfl) ?_)
    refine x_nilw ?_
    refine swp_ret ?_; (repeat (first | with_reducible refine r_then ?_ | with_reducible refine r_block ?_ | with_reducible refine r_jump ?_))
    exact post1 rfl rfl ⟨_, rfl, rfl, u3⟩
end Go.Proofs.Ytnhecopgecoloaa
