/- GatePlays' walk: it answers true. Conditions: fewer than 2^49 steps. -/
import Derived.Test.YtnhecopgecoloaaGt
namespace Go.Proofs.Ytnhecopgecoloaa
open Hp Sx

set_option maxRecDepth 100000 in
theorem made (cap : Int) (w : World) : Gets Try.prog 30 [.int .i64 cap] w fun v w' =>
    (v = .tuple #[.agg [.pointer none, .pointer none, .int .i64 cap].toArray, .bool true] ∧ Ext w w') ∨
    (∃ bg r bp sp bm, v = .tuple #[.agg [.pointer (some ⟨bg, 0, none⟩), .pointer (some ⟨bm, 0, none⟩), .int .i64 cap].toArray, .bool true] ∧ Gt w' bg r bp sp (fresh cap) 0 ∧ Mo w' bm (.slice none 0 0) (fresh cap) ∧ (fresh cap).Ok ∧ (∀ b, gfoot bg r bp sp b → w.heap.size ≤ b ∧ b ≠ bm) ∧ w.heap.size ≤ bm ∧ Ext w w') := by
  refine ⟨GoFn.h, calls_of_swp 33 Try.func30 Try.ntmps30 rfl (Nat.le_of_ble_eq_true rfl) ?_⟩
  (repeat (first | refine swp_seq ?_ | refine swp_block ?_)); refine swp_region (by kernel_rfl) ?_
  refine w_alloc (by rfl) (by rfl) ZeroT.h ?_; intro b0 w0 e0 u0 h0
  repeat (first | refine x_move (by rfl) ?_ | refine x_as (by rfl) (by rfl) ?_ | refine x_skip (by rfl) ?_ | refine x_fld (by rfl) (by rfl) FldO.h ?_ | refine x_nilck (by rfl) (by rfl) ?_ | refine x_len (by rfl) (by rfl) ElOf.some ?_ | refine x_ext (by rfl) (by rfl) (by rfl) ?_ | refine x_pickT (by rfl) (by rfl) (by rfl) ?_ | refine x_pickF (by rfl) (by rfl) (by rfl) ?_ | refine x_add (by rfl) (by rfl) (by rfl) (by omega) ?_ | refine x_sub (by rfl) (by rfl) (by rfl) (by omega) ?_ | refine x_not (by rfl) (by rfl) ?_)
  refine x_nilw ?_
  have s0 := u0.size
  (repeat (first | refine swp_seq ?_ | refine swp_block ?_)); refine swp_region (by kernel_rfl) ?_
  repeat (first | refine x_move (by rfl) ?_ | refine x_as (by rfl) (by rfl) ?_ | refine x_skip (by rfl) ?_ | refine x_fld (by rfl) (by rfl) FldO.h ?_ | refine x_nilck (by rfl) (by rfl) ?_ | refine x_len (by rfl) (by rfl) ElOf.some ?_ | refine x_ext (by rfl) (by rfl) (by rfl) ?_ | refine x_pickT (by rfl) (by rfl) (by rfl) ?_ | refine x_pickF (by rfl) (by rfl) (by rfl) ?_ | refine x_add (by rfl) (by rfl) (by rfl) (by omega) ?_ | refine x_sub (by rfl) (by rfl) (by rfl) (by omega) ?_ | refine x_not (by rfl) (by rfl) ?_)
  refine w_call (by rfl) (by rfl) (by rfl) (g_new cap w0) ?_
  rintro _ w1 (⟨hc, rfl, u1⟩ | ⟨hc, bg, r, bp, sp, rfl, g1, hf1, u1⟩)
  · repeat (first | refine x_move (by rfl) ?_ | refine x_as (by rfl) (by rfl) ?_ | refine x_skip (by rfl) ?_ | refine x_fld (by rfl) (by rfl) FldO.h ?_ | refine x_nilck (by rfl) (by rfl) ?_ | refine x_len (by rfl) (by rfl) ElOf.some ?_ | refine x_ext (by rfl) (by rfl) (by rfl) ?_ | refine x_pickT (by rfl) (by rfl) (by rfl) ?_ | refine x_pickF (by rfl) (by rfl) (by rfl) ?_ | refine x_add (by rfl) (by rfl) (by rfl) (by omega) ?_ | refine x_sub (by rfl) (by rfl) (by rfl) (by omega) ?_ | refine x_not (by rfl) (by rfl) ?_)
    refine x_nilw ?_
    (repeat (first | refine swp_seq ?_ | refine swp_block ?_)); refine swp_region (by kernel_rfl) ?_
    repeat (first | refine x_move (by rfl) ?_ | refine x_as (by rfl) (by rfl) ?_ | refine x_skip (by rfl) ?_ | refine x_fld (by rfl) (by rfl) FldO.h ?_ | refine x_nilck (by rfl) (by rfl) ?_ | refine x_len (by rfl) (by rfl) ElOf.some ?_ | refine x_ext (by rfl) (by rfl) (by rfl) ?_ | refine x_pickT (by rfl) (by rfl) (by rfl) ?_ | refine x_pickF (by rfl) (by rfl) (by rfl) ?_ | refine x_add (by rfl) (by rfl) (by rfl) (by omega) ?_ | refine x_sub (by rfl) (by rfl) (by rfl) (by omega) ?_ | refine x_not (by rfl) (by rfl) ?_)
    refine w_call (by rfl) (by rfl) (by rfl) (m_new cap w1) ?_
    rintro _ w2 (⟨_, rfl, u2⟩ | ⟨hc2, _⟩)
    · repeat (first | refine x_move (by rfl) ?_ | refine x_as (by rfl) (by rfl) ?_ | refine x_skip (by rfl) ?_ | refine x_fld (by rfl) (by rfl) FldO.h ?_ | refine x_nilck (by rfl) (by rfl) ?_ | refine x_len (by rfl) (by rfl) ElOf.some ?_ | refine x_ext (by rfl) (by rfl) (by rfl) ?_ | refine x_pickT (by rfl) (by rfl) (by rfl) ?_ | refine x_pickF (by rfl) (by rfl) (by rfl) ?_ | refine x_add (by rfl) (by rfl) (by rfl) (by omega) ?_ | refine x_sub (by rfl) (by rfl) (by rfl) (by omega) ?_ | refine x_not (by rfl) (by rfl) ?_)
      refine x_nilw ?_
      refine swp_fit [(0, .int .i64 cap), (2, .pointer (some ⟨b0, 0, none⟩)), (4, .pointer none), (5, .int .i64 100), (6, .pointer none), (7, .int .i64 100)] ⟨rfl, rfl, rfl, rfl, rfl, rfl, trivial⟩ fun ρ => ?_
      (repeat (first | refine swp_seq ?_ | refine swp_block ?_)); refine swp_region (by kernel_rfl) ?_
      repeat (first | refine x_move (by rfl) ?_ | refine x_as (by rfl) (by rfl) ?_ | refine x_skip (by rfl) ?_ | refine x_fld (by rfl) (by rfl) FldO.h ?_ | refine x_nilck (by rfl) (by rfl) ?_ | refine x_len (by rfl) (by rfl) ElOf.some ?_ | refine x_ext (by rfl) (by rfl) (by rfl) ?_ | refine x_pickT (by rfl) (by rfl) (by rfl) ?_ | refine x_pickF (by rfl) (by rfl) (by rfl) ?_ | refine x_add (by rfl) (by rfl) (by rfl) (by omega) ?_ | refine x_sub (by rfl) (by rfl) (by rfl) (by omega) ?_ | refine x_not (by rfl) (by rfl) ?_)
      refine x_neqF (by rfl) (by rfl) (by rfl) (fun h => h rfl) ?_
      repeat (first | refine x_move (by rfl) ?_ | refine x_as (by rfl) (by rfl) ?_ | refine x_skip (by rfl) ?_ | refine x_fld (by rfl) (by rfl) FldO.h ?_ | refine x_nilck (by rfl) (by rfl) ?_ | refine x_len (by rfl) (by rfl) ElOf.some ?_ | refine x_ext (by rfl) (by rfl) (by rfl) ?_ | refine x_pickT (by rfl) (by rfl) (by rfl) ?_ | refine x_pickF (by rfl) (by rfl) (by rfl) ?_ | refine x_add (by rfl) (by rfl) (by rfl) (by omega) ?_ | refine x_sub (by rfl) (by rfl) (by rfl) (by omega) ?_ | refine x_not (by rfl) (by rfl) ?_)
      refine x_eqlN Try.underlying22 (by rfl) (by rfl) (by rfl) ?_
      repeat (first | refine x_move (by rfl) ?_ | refine x_as (by rfl) (by rfl) ?_ | refine x_skip (by rfl) ?_ | refine x_fld (by rfl) (by rfl) FldO.h ?_ | refine x_nilck (by rfl) (by rfl) ?_ | refine x_len (by rfl) (by rfl) ElOf.some ?_ | refine x_ext (by rfl) (by rfl) (by rfl) ?_ | refine x_pickT (by rfl) (by rfl) (by rfl) ?_ | refine x_pickF (by rfl) (by rfl) (by rfl) ?_ | refine x_add (by rfl) (by rfl) (by rfl) (by omega) ?_ | refine x_sub (by rfl) (by rfl) (by rfl) (by omega) ?_ | refine x_not (by rfl) (by rfl) ?_)
      refine x_eqlN Try.underlying68 (by rfl) (by rfl) (by rfl) ?_
      refine x_neqB Try.underlying4 (by rfl) (by rfl) (by rfl) ?_
      repeat (first | refine x_move (by rfl) ?_ | refine x_as (by rfl) (by rfl) ?_ | refine x_skip (by rfl) ?_ | refine x_fld (by rfl) (by rfl) FldO.h ?_ | refine x_nilck (by rfl) (by rfl) ?_ | refine x_len (by rfl) (by rfl) ElOf.some ?_ | refine x_ext (by rfl) (by rfl) (by rfl) ?_ | refine x_pickT (by rfl) (by rfl) (by rfl) ?_ | refine x_pickF (by rfl) (by rfl) (by rfl) ?_ | refine x_add (by rfl) (by rfl) (by rfl) (by omega) ?_ | refine x_sub (by rfl) (by rfl) (by rfl) (by omega) ?_ | refine x_not (by rfl) (by rfl) ?_)
      refine x_nilw ?_
      (repeat (first | refine swp_seq ?_ | refine swp_block ?_))
      refine swp_false (by rfl) (swp_skip ?_)
      (repeat (first | with_reducible refine n_then ?_ | with_reducible refine n_block ?_ | with_reducible refine n_jump ?_))
      (repeat (first | refine swp_seq ?_ | refine swp_block ?_)); refine swp_region (by kernel_rfl) ?_
      repeat (first | refine x_move (by rfl) ?_ | refine x_as (by rfl) (by rfl) ?_ | refine x_skip (by rfl) ?_ | refine x_fld (by rfl) (by rfl) FldO.h ?_ | refine x_nilck (by rfl) (by rfl) ?_ | refine x_len (by rfl) (by rfl) ElOf.some ?_ | refine x_ext (by rfl) (by rfl) (by rfl) ?_ | refine x_pickT (by rfl) (by rfl) (by rfl) ?_ | refine x_pickF (by rfl) (by rfl) (by rfl) ?_ | refine x_add (by rfl) (by rfl) (by rfl) (by omega) ?_ | refine x_sub (by rfl) (by rfl) (by rfl) (by omega) ?_ | refine x_not (by rfl) (by rfl) ?_)
      refine x_build (v := .agg [.pointer none, .pointer none, .int .i64 cap].toArray) (by rfl) (by rfl) (fun _ => by kernel_rfl) ?_
      refine w_store (xs := [.pointer none, .pointer none, .int .i64 cap]) (by rfl) (by rfl) (by rfl) (by rfl) SzT.h (by rfl) (by rfl) ((h0.at u1).at u2) (by simp) ?_
      intro w3 u3 h3 _
      repeat (first | refine x_move (by rfl) ?_ | refine x_as (by rfl) (by rfl) ?_ | refine x_skip (by rfl) ?_ | refine x_fld (by rfl) (by rfl) FldO.h ?_ | refine x_nilck (by rfl) (by rfl) ?_ | refine x_len (by rfl) (by rfl) ElOf.some ?_ | refine x_ext (by rfl) (by rfl) (by rfl) ?_ | refine x_pickT (by rfl) (by rfl) (by rfl) ?_ | refine x_pickF (by rfl) (by rfl) (by rfl) ?_ | refine x_add (by rfl) (by rfl) (by rfl) (by omega) ?_ | refine x_sub (by rfl) (by rfl) (by rfl) (by omega) ?_ | refine x_not (by rfl) (by rfl) ?_)
      refine x_nilw ?_
      refine swp_ret ?_; (repeat (first | with_reducible refine r_then ?_ | with_reducible refine r_block ?_ | with_reducible refine r_jump ?_))
      exact postCT rfl rfl (load_agg (xs := [.pointer none, .pointer none, .int .i64 cap]) AggT.h h3 (by rfl) (by rfl)) rfl ⟨_, rfl, .inl ⟨rfl, ((u0.trans u1).trans u2).trans' u3 fun b hb e => by have e' : b = b0 := e; omega⟩⟩
    · exact absurd hc2 hc
  · repeat (first | refine x_move (by rfl) ?_ | refine x_as (by rfl) (by rfl) ?_ | refine x_skip (by rfl) ?_ | refine x_fld (by rfl) (by rfl) FldO.h ?_ | refine x_nilck (by rfl) (by rfl) ?_ | refine x_len (by rfl) (by rfl) ElOf.some ?_ | refine x_ext (by rfl) (by rfl) (by rfl) ?_ | refine x_pickT (by rfl) (by rfl) (by rfl) ?_ | refine x_pickF (by rfl) (by rfl) (by rfl) ?_ | refine x_add (by rfl) (by rfl) (by rfl) (by omega) ?_ | refine x_sub (by rfl) (by rfl) (by rfl) (by omega) ?_ | refine x_not (by rfl) (by rfl) ?_)
    refine x_nilw ?_
    (repeat (first | refine swp_seq ?_ | refine swp_block ?_)); refine swp_region (by kernel_rfl) ?_
    repeat (first | refine x_move (by rfl) ?_ | refine x_as (by rfl) (by rfl) ?_ | refine x_skip (by rfl) ?_ | refine x_fld (by rfl) (by rfl) FldO.h ?_ | refine x_nilck (by rfl) (by rfl) ?_ | refine x_len (by rfl) (by rfl) ElOf.some ?_ | refine x_ext (by rfl) (by rfl) (by rfl) ?_ | refine x_pickT (by rfl) (by rfl) (by rfl) ?_ | refine x_pickF (by rfl) (by rfl) (by rfl) ?_ | refine x_add (by rfl) (by rfl) (by rfl) (by omega) ?_ | refine x_sub (by rfl) (by rfl) (by rfl) (by omega) ?_ | refine x_not (by rfl) (by rfl) ?_)
    refine w_call (by rfl) (by rfl) (by rfl) (m_new cap w1) ?_
    rintro _ w2 (⟨hc2, _⟩ | ⟨hc2, bm, rfl, m2, hbm, u2⟩)
    · exact absurd hc hc2
    have s1 := u1.size
    have s2 := u2.size
    repeat (first | refine x_move (by rfl) ?_ | refine x_as (by rfl) (by rfl) ?_ | refine x_skip (by rfl) ?_ | refine x_fld (by rfl) (by rfl) FldO.h ?_ | refine x_nilck (by rfl) (by rfl) ?_ | refine x_len (by rfl) (by rfl) ElOf.some ?_ | refine x_ext (by rfl) (by rfl) (by rfl) ?_ | refine x_pickT (by rfl) (by rfl) (by rfl) ?_ | refine x_pickF (by rfl) (by rfl) (by rfl) ?_ | refine x_add (by rfl) (by rfl) (by rfl) (by omega) ?_ | refine x_sub (by rfl) (by rfl) (by rfl) (by omega) ?_ | refine x_not (by rfl) (by rfl) ?_)
    refine x_nilw ?_
    refine swp_fit [(0, .int .i64 cap), (2, .pointer (some ⟨b0, 0, none⟩)), (4, .pointer (some ⟨bg, 0, none⟩)), (5, .int .i64 0), (6, .pointer (some ⟨bm, 0, none⟩)), (7, .int .i64 0)] ⟨rfl, rfl, rfl, rfl, rfl, rfl, trivial⟩ fun ρ => ?_
    (repeat (first | refine swp_seq ?_ | refine swp_block ?_)); refine swp_region (by kernel_rfl) ?_
    repeat (first | refine x_move (by rfl) ?_ | refine x_as (by rfl) (by rfl) ?_ | refine x_skip (by rfl) ?_ | refine x_fld (by rfl) (by rfl) FldO.h ?_ | refine x_nilck (by rfl) (by rfl) ?_ | refine x_len (by rfl) (by rfl) ElOf.some ?_ | refine x_ext (by rfl) (by rfl) (by rfl) ?_ | refine x_pickT (by rfl) (by rfl) (by rfl) ?_ | refine x_pickF (by rfl) (by rfl) (by rfl) ?_ | refine x_add (by rfl) (by rfl) (by rfl) (by omega) ?_ | refine x_sub (by rfl) (by rfl) (by rfl) (by omega) ?_ | refine x_not (by rfl) (by rfl) ?_)
    refine x_neqF (by rfl) (by rfl) (by rfl) (fun h => h rfl) ?_
    repeat (first | refine x_move (by rfl) ?_ | refine x_as (by rfl) (by rfl) ?_ | refine x_skip (by rfl) ?_ | refine x_fld (by rfl) (by rfl) FldO.h ?_ | refine x_nilck (by rfl) (by rfl) ?_ | refine x_len (by rfl) (by rfl) ElOf.some ?_ | refine x_ext (by rfl) (by rfl) (by rfl) ?_ | refine x_pickT (by rfl) (by rfl) (by rfl) ?_ | refine x_pickF (by rfl) (by rfl) (by rfl) ?_ | refine x_add (by rfl) (by rfl) (by rfl) (by omega) ?_ | refine x_sub (by rfl) (by rfl) (by rfl) (by omega) ?_ | refine x_not (by rfl) (by rfl) ?_)
    refine x_eqlP Try.underlying22 (by rfl) (by rfl) (by rfl) ?_
    repeat (first | refine x_move (by rfl) ?_ | refine x_as (by rfl) (by rfl) ?_ | refine x_skip (by rfl) ?_ | refine x_fld (by rfl) (by rfl) FldO.h ?_ | refine x_nilck (by rfl) (by rfl) ?_ | refine x_len (by rfl) (by rfl) ElOf.some ?_ | refine x_ext (by rfl) (by rfl) (by rfl) ?_ | refine x_pickT (by rfl) (by rfl) (by rfl) ?_ | refine x_pickF (by rfl) (by rfl) (by rfl) ?_ | refine x_add (by rfl) (by rfl) (by rfl) (by omega) ?_ | refine x_sub (by rfl) (by rfl) (by rfl) (by omega) ?_ | refine x_not (by rfl) (by rfl) ?_)
    refine x_eqlP Try.underlying68 (by rfl) (by rfl) (by rfl) ?_
    refine x_neqB Try.underlying4 (by rfl) (by rfl) (by rfl) ?_
    repeat (first | refine x_move (by rfl) ?_ | refine x_as (by rfl) (by rfl) ?_ | refine x_skip (by rfl) ?_ | refine x_fld (by rfl) (by rfl) FldO.h ?_ | refine x_nilck (by rfl) (by rfl) ?_ | refine x_len (by rfl) (by rfl) ElOf.some ?_ | refine x_ext (by rfl) (by rfl) (by rfl) ?_ | refine x_pickT (by rfl) (by rfl) (by rfl) ?_ | refine x_pickF (by rfl) (by rfl) (by rfl) ?_ | refine x_add (by rfl) (by rfl) (by rfl) (by omega) ?_ | refine x_sub (by rfl) (by rfl) (by rfl) (by omega) ?_ | refine x_not (by rfl) (by rfl) ?_)
    refine x_nilw ?_
    (repeat (first | refine swp_seq ?_ | refine swp_block ?_))
    refine swp_false (by rfl) (swp_skip ?_)
    (repeat (first | with_reducible refine n_then ?_ | with_reducible refine n_block ?_ | with_reducible refine n_jump ?_))
    have hb0 : b0 < w0.heap.size := h0.lt
    (repeat (first | refine swp_seq ?_ | refine swp_block ?_)); refine swp_region (by kernel_rfl) ?_
    repeat (first | refine x_move (by rfl) ?_ | refine x_as (by rfl) (by rfl) ?_ | refine x_skip (by rfl) ?_ | refine x_fld (by rfl) (by rfl) FldO.h ?_ | refine x_nilck (by rfl) (by rfl) ?_ | refine x_len (by rfl) (by rfl) ElOf.some ?_ | refine x_ext (by rfl) (by rfl) (by rfl) ?_ | refine x_pickT (by rfl) (by rfl) (by rfl) ?_ | refine x_pickF (by rfl) (by rfl) (by rfl) ?_ | refine x_add (by rfl) (by rfl) (by rfl) (by omega) ?_ | refine x_sub (by rfl) (by rfl) (by rfl) (by omega) ?_ | refine x_not (by rfl) (by rfl) ?_)
    refine x_build (v := .agg [.pointer (some ⟨bg, 0, none⟩), .pointer (some ⟨bm, 0, none⟩), .int .i64 cap].toArray) (by rfl) (by rfl) (fun _ => by kernel_rfl) ?_
    refine w_store (xs := [.pointer (some ⟨bg, 0, none⟩), .pointer (some ⟨bm, 0, none⟩), .int .i64 cap]) (by rfl) (by rfl) (by rfl) (by rfl) SzT.h (by rfl) (by rfl) ((h0.at u1).at u2) (by simp) ?_
    intro w3 u3 h3 _
    repeat (first | refine x_move (by rfl) ?_ | refine x_as (by rfl) (by rfl) ?_ | refine x_skip (by rfl) ?_ | refine x_fld (by rfl) (by rfl) FldO.h ?_ | refine x_nilck (by rfl) (by rfl) ?_ | refine x_len (by rfl) (by rfl) ElOf.some ?_ | refine x_ext (by rfl) (by rfl) (by rfl) ?_ | refine x_pickT (by rfl) (by rfl) (by rfl) ?_ | refine x_pickF (by rfl) (by rfl) (by rfl) ?_ | refine x_add (by rfl) (by rfl) (by rfl) (by omega) ?_ | refine x_sub (by rfl) (by rfl) (by rfl) (by omega) ?_ | refine x_not (by rfl) (by rfl) ?_)
    refine x_nilw ?_
    refine swp_ret ?_; (repeat (first | with_reducible refine r_then ?_ | with_reducible refine r_block ?_ | with_reducible refine r_jump ?_))
    have hfb : ∀ b, gfoot bg r bp sp b → b ≠ b0 := fun b hb => by have := hf1 b hb; omega
    exact postCT rfl rfl (load_agg (xs := [.pointer (some ⟨bg, 0, none⟩), .pointer (some ⟨bm, 0, none⟩), .int .i64 cap]) AggT.h h3 (by rfl) (by rfl)) rfl ⟨_, rfl, .inr ⟨bg, r, bp, sp, bm, rfl, (g1.at u2).get u3 fun b hb e => hfb b hb e, m2.get u3 fun b hb e => by
      have e' : b = b0 := e
      rcases hb with h | h
      · omega
      · exact h.elim, fresh_ok hc.1 hc.2, fun b hb => ⟨by have := hf1 b hb; omega, by have := g1.lt hb; omega⟩, by omega, ((u0.trans u1).trans u2).trans' u3 fun b hb e => by have e' : b = b0 := e; omega⟩⟩

/-- A pair, there or not. -/
def PaE (w0 w : World) (pb : Nat) (F : Nat → Prop) (n : Nat) : Prop :=
  F pb ∧ (∀ b, F b → w0.heap.size ≤ b ∧ b < w.heap.size) ∧ ((∃ c, Blk w pb 70 [.pointer none, .pointer none, .int .i64 c]) ∨ ∃ bg r bp sp bm sl g N, PaL w pb bg r bp sp bm sl g N ∧ N ≤ n ∧ ∀ b, pfoot pb bg r bp sp bm sl b → F b)
theorem PaE.get {w0 w w' : World} {pb n : Nat} {F G : Nat → Prop} (h : PaE w0 w pb F n) (u : Upd G w w') (hn : ∀ b, F b → ¬ G b) : PaE w0 w' pb F n := by
  obtain ⟨h1, h2, h3⟩ := h
  have s := u.size
  refine ⟨h1, fun b hb => ⟨(h2 b hb).1, by have := (h2 b hb).2; omega⟩, ?_⟩
  rcases h3 with ⟨c, hb⟩ | ⟨bg, r, bp, sp, bm, sl, g, N, p, hN, hf⟩
  · exact .inl ⟨c, hb.get u (hn pb h1)⟩
  · exact .inr ⟨bg, r, bp, sp, bm, sl, g, N, p.get u fun b hb => hn b (hf b hb), hN, hf⟩
theorem PaE.at {w0 w w' : World} {pb n : Nat} {F : Nat → Prop} (h : PaE w0 w pb F n) (u : Ext w w') : PaE w0 w' pb F n := h.get u fun _ _ h => h
theorem PaE.le {w0 w : World} {pb n m : Nat} {F : Nat → Prop} (h : PaE w0 w pb F n) (hm : n ≤ m) : PaE w0 w pb F m := by
  obtain ⟨h1, h2, h3⟩ := h
  refine ⟨h1, h2, ?_⟩
  rcases h3 with h3 | ⟨bg, r, bp, sp, bm, sl, g, N, p, hN, hf⟩
  · exact .inl h3
  · exact .inr ⟨bg, r, bp, sp, bm, sl, g, N, p, by omega, hf⟩
/-- a pair laid in a variable -/
theorem pae_new {w w1 w2 w3 : World} {pb bg r bp bm : Nat} {sp : Value} {cap : Int} (u1 : Ext w w1) (g1 : Gt w1 bg r bp sp (fresh cap) 0) (m1 : Mo w1 bm (.slice none 0 0) (fresh cap)) (ok : (fresh cap).Ok) (hf : ∀ b, gfoot bg r bp sp b → w.heap.size ≤ b ∧ b ≠ bm) (hm : w.heap.size ≤ bm)
    (u2 : Ext w1 w2) (hpb : pb = w1.heap.size) (u3 : Upd (fun b => b = pb) w2 w3) (hb : Blk w3 pb 70 [.pointer (some ⟨bg, 0, none⟩), .pointer (some ⟨bm, 0, none⟩), .int .i64 cap]) : PaE w w3 pb (fun b => w.heap.size ≤ b ∧ b < w3.heap.size) 0 := by
  have s1 := u1.size
  have s2 := u2.size
  have s3 := u3.size
  have hbl := hb.lt
  have hgl : ∀ b, gfoot bg r bp sp b → b < w1.heap.size := fun b hb => g1.lt hb
  have hml : ∀ b, mfoot bm (.slice none 0 0) b → b < w1.heap.size := fun b hb => m1.lt hb
  have hmf : ∀ b, mfoot bm (.slice none 0 0) b → b = bm := fun b hb => hb.elim id fun h => h.elim
  refine ⟨⟨by omega, hbl⟩, fun b hb => hb, .inr ⟨bg, r, bp, sp, bm, .slice none 0 0, fresh cap, 0, ⟨hb, (g1.at u2).get u3 fun b hb e => ?_, (m1.at u2).get u3 fun b hb e => ?_, ok, fun h => ?_, fun b hb hb' => (hf b hb).2 (hmf b hb'), ⟨fun h => ?_, fun h => ?_⟩⟩, Nat.le_refl _, fun b hb => ?_⟩⟩
  · have := hgl b hb; have e' : b = pb := e; omega
  · have := hml b hb; have e' : b = pb := e; omega
  · simp [fresh] at h
  · have := hgl pb h; omega
  · have := hml pb h; omega
  · rcases hb with rfl | hb | hb
    · exact ⟨by omega, hbl⟩
    · have := hgl b hb; exact ⟨(hf b hb).1, by omega⟩
    · have := hml b hb; have := hmf b hb; exact ⟨by omega, by omega⟩
theorem pae_nil {w w1 w3 : World} {pb : Nat} {cap : Int} (u1 : Ext w w1) (hpb : pb = w1.heap.size) (hb : Blk w3 pb 70 [.pointer none, .pointer none, .int .i64 cap]) : PaE w w3 pb (fun b => w.heap.size ≤ b ∧ b < w3.heap.size) 0 := by
  have s1 := u1.size
  exact ⟨⟨by omega, hb.lt⟩, fun b hb => hb, .inl ⟨cap, hb⟩⟩
end Go.Proofs.Ytnhecopgecoloaa
