/- The law's shuffling: the same things in another order. Conditions: room. -/
import Derived.Test.YtfcbiclmejeihaaUw
import Derived.Test.YtfcbiclmejeihaaRw
import Derived.Test.YtfcbiclmejeihaaW4
namespace Go.Proofs.Ytfcbiclmejeihaa
open Hp Sx

theorem tmod_nat (k n : Nat) : (k : Int).tmod (n : Int) = ((k % n : Nat) : Int) := by
  rw [Int.tmod_eq_emod_of_nonneg (by omega)]
  exact (Int.natCast_emod k n).symm

set_option maxHeartbeats 2000000 in
set_option maxRecDepth 100000 in
theorem shuffled {w : World} {sv qv : Value} {U : List Ev} {qs : List Int} (h : Rd w 11 sv U.length (fl Ev.cells U)) (hq : Rd w 1 qv qs.length (fl encI qs)) (hr : Room U.length 88) (hql : qs.length ≤ 4611686018427387903) :
    Gets Try.prog 43 [sv, qv] w fun v w' => ∃ T : List Ev, T.Perm U ∧ PEv.Fresh w w' v T := by
  obtain ⟨a0, c0, rfl⟩ := h.slice
  obtain ⟨a1, c1, rfl⟩ := hq.slice
  have hl := hr.1
  refine ⟨GoFn.h, calls_of_swp 56 Try.func43 Try.ntmps43 rfl (Nat.le_of_ble_eq_true rfl) ?_⟩
  (repeat (first | refine swp_seq ?_ | refine swp_block ?_)); refine swp_region (by kernel_rfl) ?_
  repeat (first | refine x_move (by rfl) ?_ | refine x_as (by rfl) (by rfl) ?_ | refine x_skip (by rfl) ?_ | refine x_fld (by rfl) (by rfl) FldO.h ?_ | refine x_nilck (by rfl) (by rfl) ?_ | refine x_len (by rfl) (by rfl) ElOf.some ?_ | refine x_ext (by rfl) (by rfl) (by rfl) ?_ | refine x_pickT (by rfl) (by rfl) (by rfl) ?_ | refine x_pickF (by rfl) (by rfl) (by rfl) ?_ | refine x_add (by rfl) (by rfl) (by rfl) (by omega) ?_ | refine x_sub (by rfl) (by rfl) (by rfl) (by omega) ?_ | refine x_not (by rfl) (by rfl) ?_)
  refine x_nilw ?_
  (repeat (first | refine swp_seq ?_ | refine swp_block ?_)); refine swp_region (by kernel_rfl) ?_
  repeat (first | refine x_move (by rfl) ?_ | refine x_as (by rfl) (by rfl) ?_ | refine x_skip (by rfl) ?_ | refine x_fld (by rfl) (by rfl) FldO.h ?_ | refine x_nilck (by rfl) (by rfl) ?_ | refine x_len (by rfl) (by rfl) ElOf.some ?_ | refine x_ext (by rfl) (by rfl) (by rfl) ?_ | refine x_pickT (by rfl) (by rfl) (by rfl) ?_ | refine x_pickF (by rfl) (by rfl) (by rfl) ?_ | refine x_add (by rfl) (by rfl) (by rfl) (by omega) ?_ | refine x_sub (by rfl) (by rfl) (by rfl) (by omega) ?_ | refine x_not (by rfl) (by rfl) ?_)
  refine x_nilw ?_
  (repeat (first | refine swp_seq ?_ | refine swp_block ?_)); refine swp_region (by kernel_rfl) ?_
  repeat (first | refine x_move (by rfl) ?_ | refine x_as (by rfl) (by rfl) ?_ | refine x_skip (by rfl) ?_ | refine x_fld (by rfl) (by rfl) FldO.h ?_ | refine x_nilck (by rfl) (by rfl) ?_ | refine x_len (by rfl) (by rfl) ElOf.some ?_ | refine x_ext (by rfl) (by rfl) (by rfl) ?_ | refine x_pickT (by rfl) (by rfl) (by rfl) ?_ | refine x_pickF (by rfl) (by rfl) (by rfl) ?_ | refine x_add (by rfl) (by rfl) (by rfl) (by omega) ?_ | refine x_sub (by rfl) (by rfl) (by rfl) (by omega) ?_ | refine x_not (by rfl) (by rfl) ?_)
  refine w_appendR (by rfl) (by rfl) (by rfl) (by rfl) SlC.h (Own.nil _ _ _) h (PEv.fl_one' ev_one U) (hr.le (by omega)) ?_
  intro tv w1 own1 u1 hin1
  repeat (first | refine x_move (by rfl) ?_ | refine x_as (by rfl) (by rfl) ?_ | refine x_skip (by rfl) ?_ | refine x_fld (by rfl) (by rfl) FldO.h ?_ | refine x_nilck (by rfl) (by rfl) ?_ | refine x_len (by rfl) (by rfl) ElOf.some ?_ | refine x_ext (by rfl) (by rfl) (by rfl) ?_ | refine x_pickT (by rfl) (by rfl) (by rfl) ?_ | refine x_pickF (by rfl) (by rfl) (by rfl) ?_ | refine x_add (by rfl) (by rfl) (by rfl) (by omega) ?_ | refine x_sub (by rfl) (by rfl) (by rfl) (by omega) ?_ | refine x_not (by rfl) (by rfl) ?_)
  refine x_nilw ?_
  rw [Nat.zero_add, List.nil_append] at own1
  have u1' : Ext w w1 := (Upd.refl _ w).trans' u1 fun b _ h => h
  have s1 := u1.size
  (repeat (first | refine swp_seq ?_ | refine swp_block ?_)); refine swp_region (by kernel_rfl) ?_
  repeat (first | refine x_move (by rfl) ?_ | refine x_as (by rfl) (by rfl) ?_ | refine x_skip (by rfl) ?_ | refine x_fld (by rfl) (by rfl) FldO.h ?_ | refine x_nilck (by rfl) (by rfl) ?_ | refine x_len (by rfl) (by rfl) ElOf.some ?_ | refine x_ext (by rfl) (by rfl) (by rfl) ?_ | refine x_pickT (by rfl) (by rfl) (by rfl) ?_ | refine x_pickF (by rfl) (by rfl) (by rfl) ?_ | refine x_add (by rfl) (by rfl) (by rfl) (by omega) ?_ | refine x_sub (by rfl) (by rfl) (by rfl) (by omega) ?_ | refine x_not (by rfl) (by rfl) ?_)
  refine x_nilw ?_
  (repeat (first | refine swp_seq ?_ | refine swp_block ?_))
  refine swp_loop (fun (k : Nat) σ w2 => ∃ rv ov R out, At σ [(0, .slice a0 U.length c0), (1, .slice a1 qs.length c1), (5, rv), (6, ov), (7, .int .i64 (k : Nat))] ∧ k + R.length = U.length ∧ out.length = k ∧ (out ++ R).Perm U ∧ Own w2 30 11 rv R.length (fl Ev.cells R) ∧ Own w2 30 11 ov k (fl Ev.cells out) ∧ (∀ b, isIn rv b → w.heap.size ≤ b) ∧ (∀ b, isIn ov b → w.heap.size ≤ b) ∧ (∀ b, isIn rv b → ¬ isIn ov b) ∧ Ext w w2) (fun k => U.length - k) 0 ⟨tv, .slice none 0 0, U, [], at_ ⟨rfl, rfl, rfl, rfl, rfl, trivial⟩, by omega, rfl, List.Perm.refl _, own1, Own.nil _ _ _, fun b hb => ?_, fun b hb => hb.elim, fun b _ hb => hb.elim, u1'⟩ ?_
  · rcases hin1 b hb with h | h
    · exact h.elim
    · omega
  rintro k σ w2 ⟨rv, ov, R, out, ⟨ρ, rfl⟩, hk, ho, hperm, ownR, ownO, hfR, hfO, hd, u2⟩
  obtain ⟨ra, rc, rfl⟩ := ownR.slice
  (repeat (first | refine swp_seq ?_ | refine swp_block ?_)); refine swp_region (by kernel_rfl) ?_
  repeat (first | refine x_move (by rfl) ?_ | refine x_as (by rfl) (by rfl) ?_ | refine x_skip (by rfl) ?_ | refine x_fld (by rfl) (by rfl) FldO.h ?_ | refine w_load (by rfl) (by rfl) (load_one OneT.h (by assumption) (by rfl)) ?_ | refine x_nilck (by rfl) (by rfl) ?_ | refine x_len (by rfl) (by rfl) ElOf.some ?_ | refine x_iface (by rfl) (by rfl) NIf.h ?_ | refine x_ext (by rfl) (by rfl) (by rfl) ?_ | refine x_pickT (by rfl) (by rfl) (by rfl) ?_ | refine x_pickF (by rfl) (by rfl) (by rfl) ?_ | refine x_add (by rfl) (by rfl) (by rfl) (by omega) ?_ | refine x_sub (by rfl) (by rfl) (by rfl) (by omega) ?_ | refine x_lss (by rfl) (by rfl) (by rfl) ?_ | refine x_geq (by rfl) (by rfl) (by rfl) ?_ | refine x_leq (by rfl) (by rfl) (by rfl) ?_ | refine x_gtr (by rfl) (by rfl) (by rfl) ?_ | refine x_eql (by rfl) (by rfl) (by rfl) ?_ | refine x_neq (by rfl) (by rfl) (by rfl) ?_ | refine x_not (by rfl) (by rfl) ?_)
  refine x_nilw ?_
  (repeat (first | refine swp_seq ?_ | refine swp_block ?_))
  refine swp_if (by rfl) (fun h0 => swp_skip ?_) (fun h0 => ?_)
  · have hR0 : 0 < R.length := by omega
    (repeat (first | with_reducible refine n_then ?_ | with_reducible refine n_block ?_ | with_reducible refine n_jump ?_))
    (repeat (first | refine swp_seq ?_ | refine swp_block ?_)); refine swp_region (by kernel_rfl) ?_
    repeat (first | refine x_move (by rfl) ?_ | refine x_as (by rfl) (by rfl) ?_ | refine x_skip (by rfl) ?_ | refine x_fld (by rfl) (by rfl) FldO.h ?_ | refine x_nilck (by rfl) (by rfl) ?_ | refine x_len (by rfl) (by rfl) ElOf.some ?_ | refine x_ext (by rfl) (by rfl) (by rfl) ?_ | refine x_pickT (by rfl) (by rfl) (by rfl) ?_ | refine x_pickF (by rfl) (by rfl) (by rfl) ?_ | refine x_add (by rfl) (by rfl) (by rfl) (by omega) ?_ | refine x_sub (by rfl) (by rfl) (by rfl) (by omega) ?_ | refine x_not (by rfl) (by rfl) ?_)
    refine x_nilw ?_
    refine swp_fit [(0, .slice a0 U.length c0), (1, .slice a1 qs.length c1), (5, .slice ra R.length rc), (6, ov), (7, .int .i64 (k : Nat)), (8, .int .i64 0)] ⟨rfl, rfl, rfl, rfl, rfl, rfl, trivial⟩ fun ρ => ?_
    refine swp_seq ?_
    refine PEv.swp_cutQ (fun σ w3 => ∃ z : Int, At σ [(0, .slice a0 U.length c0), (1, .slice a1 qs.length c1), (5, .slice ra R.length rc), (6, ov), (7, .int .i64 (k : Nat)), (8, .int .i64 z)] ∧ -(R.length : Int) < z ∧ z < (R.length : Int) ∧ w2 = w3) ?_ ?_
    · (repeat (first | refine swp_seq ?_ | refine swp_block ?_)); refine swp_region (by kernel_rfl) ?_
      repeat (first | refine x_move (by rfl) ?_ | refine x_as (by rfl) (by rfl) ?_ | refine x_skip (by rfl) ?_ | refine x_fld (by rfl) (by rfl) FldO.h ?_ | refine x_nilck (by rfl) (by rfl) ?_ | refine x_len (by rfl) (by rfl) ElOf.some ?_ | refine x_ext (by rfl) (by rfl) (by rfl) ?_ | refine x_pickT (by rfl) (by rfl) (by rfl) ?_ | refine x_pickF (by rfl) (by rfl) (by rfl) ?_ | refine x_add (by rfl) (by rfl) (by rfl) (by omega) ?_ | refine x_sub (by rfl) (by rfl) (by rfl) (by omega) ?_ | refine x_not (by rfl) (by rfl) ?_)
      by_cases hq0 : 0 < qs.length
      · refine x_gtrT (by rfl) (by rfl) (by rfl) (by omega) ?_
        refine x_nilw ?_
        (repeat (first | refine swp_seq ?_ | refine swp_block ?_))
        refine swp_true (by rfl) ?_
        have gq := hq.at u2
        have hm : k % qs.length < qs.length := Nat.mod_lt _ hq0
        obtain ⟨q, hqq⟩ := nthE hm
        obtain ⟨b1, o1, d1, he1, -, -⟩ := hq.pos (by omega)
        simp only [Value.slice.injEq] at he1
        obtain ⟨rfl, _, rfl⟩ := he1
        (repeat (first | refine swp_seq ?_ | refine swp_block ?_)); refine swp_region (by kernel_rfl) ?_
        repeat (first | refine x_move (by rfl) ?_ | refine x_as (by rfl) (by rfl) ?_ | refine x_skip (by rfl) ?_ | refine x_fld (by rfl) (by rfl) FldO.h ?_ | refine x_nilck (by rfl) (by rfl) ?_ | refine x_len (by rfl) (by rfl) ElOf.some ?_ | refine x_ext (by rfl) (by rfl) (by rfl) ?_ | refine x_pickT (by rfl) (by rfl) (by rfl) ?_ | refine x_pickF (by rfl) (by rfl) (by rfl) ?_ | refine x_add (by rfl) (by rfl) (by rfl) (by omega) ?_ | refine x_sub (by rfl) (by rfl) (by rfl) (by omega) ?_ | refine x_not (by rfl) (by rfl) ?_)
        refine x_rem (by rfl) (by rfl) (by rfl) (by omega) ?_
        refine x_idx (k % qs.length) (by rfl) (by rfl) (by rfl) ElSz.h (tmod_nat k qs.length) hm ?_
        refine w_load (v := .int .i64 q) (by rfl) (by rfl) (load_one_cell OneT.h (rd_cell (j := 0) encI_len gq hqq rfl rfl rfl)) ?_
        repeat (first | refine x_move (by rfl) ?_ | refine x_as (by rfl) (by rfl) ?_ | refine x_skip (by rfl) ?_ | refine x_fld (by rfl) (by rfl) FldO.h ?_ | refine x_nilck (by rfl) (by rfl) ?_ | refine x_len (by rfl) (by rfl) ElOf.some ?_ | refine x_ext (by rfl) (by rfl) (by rfl) ?_ | refine x_pickT (by rfl) (by rfl) (by rfl) ?_ | refine x_pickF (by rfl) (by rfl) (by rfl) ?_ | refine x_add (by rfl) (by rfl) (by rfl) (by omega) ?_ | refine x_sub (by rfl) (by rfl) (by rfl) (by omega) ?_ | refine x_not (by rfl) (by rfl) ?_)
        refine x_rem (by rfl) (by rfl) (by rfl) (by omega) ?_
        repeat (first | refine x_move (by rfl) ?_ | refine x_as (by rfl) (by rfl) ?_ | refine x_skip (by rfl) ?_ | refine x_fld (by rfl) (by rfl) FldO.h ?_ | refine x_nilck (by rfl) (by rfl) ?_ | refine x_len (by rfl) (by rfl) ElOf.some ?_ | refine x_ext (by rfl) (by rfl) (by rfl) ?_ | refine x_pickT (by rfl) (by rfl) (by rfl) ?_ | refine x_pickF (by rfl) (by rfl) (by rfl) ?_ | refine x_add (by rfl) (by rfl) (by rfl) (by omega) ?_ | refine x_sub (by rfl) (by rfl) (by rfl) (by omega) ?_ | refine x_not (by rfl) (by rfl) ?_)
        refine x_nilw ?_
        exact ⟨rfl, _, at_ ⟨rfl, rfl, rfl, rfl, rfl, rfl, trivial⟩, Int.lt_tmod_of_pos q (by omega), Int.tmod_lt_of_pos q (by omega), rfl⟩
      · refine x_gtrF (by rfl) (by rfl) (by rfl) (by omega) ?_
        refine x_nilw ?_
        (repeat (first | refine swp_seq ?_ | refine swp_block ?_))
        refine swp_false (by rfl) (swp_skip ?_)
        exact ⟨rfl, _, at_ ⟨rfl, rfl, rfl, rfl, rfl, rfl, trivial⟩, by omega, by omega, rfl⟩
    rintro σ w3 ⟨z, ⟨ρ, rfl⟩, hz1, hz2, rfl⟩
    refine n_then ?_
    refine swp_seq ?_
    refine PEv.swp_cutQ (fun σ w3 => ∃ i : Nat, At σ [(0, .slice a0 U.length c0), (1, .slice a1 qs.length c1), (5, .slice ra R.length rc), (6, ov), (7, .int .i64 (k : Nat)), (8, .int .i64 (i : Nat))] ∧ i < R.length ∧ w2 = w3) ?_ ?_
    · (repeat (first | refine swp_seq ?_ | refine swp_block ?_)); refine swp_region (by kernel_rfl) ?_
      repeat (first | refine x_move (by rfl) ?_ | refine x_as (by rfl) (by rfl) ?_ | refine x_skip (by rfl) ?_ | refine x_fld (by rfl) (by rfl) FldO.h ?_ | refine x_nilck (by rfl) (by rfl) ?_ | refine x_len (by rfl) (by rfl) ElOf.some ?_ | refine x_ext (by rfl) (by rfl) (by rfl) ?_ | refine x_pickT (by rfl) (by rfl) (by rfl) ?_ | refine x_pickF (by rfl) (by rfl) (by rfl) ?_ | refine x_add (by rfl) (by rfl) (by rfl) (by omega) ?_ | refine x_sub (by rfl) (by rfl) (by rfl) (by omega) ?_ | refine x_not (by rfl) (by rfl) ?_)
      by_cases hz0 : z < 0
      · refine x_lssT (by rfl) (by rfl) (by rfl) hz0 ?_
        refine x_nilw ?_
        (repeat (first | refine swp_seq ?_ | refine swp_block ?_))
        refine swp_true (by rfl) ?_
        (repeat (first | refine swp_seq ?_ | refine swp_block ?_)); refine swp_region (by kernel_rfl) ?_
        repeat (first | refine x_move (by rfl) ?_ | refine x_as (by rfl) (by rfl) ?_ | refine x_skip (by rfl) ?_ | refine x_fld (by rfl) (by rfl) FldO.h ?_ | refine x_nilck (by rfl) (by rfl) ?_ | refine x_len (by rfl) (by rfl) ElOf.some ?_ | refine x_ext (by rfl) (by rfl) (by rfl) ?_ | refine x_pickT (by rfl) (by rfl) (by rfl) ?_ | refine x_pickF (by rfl) (by rfl) (by rfl) ?_ | refine x_add (by rfl) (by rfl) (by rfl) (by omega) ?_ | refine x_sub (by rfl) (by rfl) (by rfl) (by omega) ?_ | refine x_not (by rfl) (by rfl) ?_)
        refine x_nilw ?_
        have e : z + (R.length : Nat) = ((z + R.length).toNat : Nat) := by omega
        refine ⟨rfl, (z + R.length).toNat, ?_, by omega, rfl⟩
        rw [← e]
        exact at_ ⟨rfl, rfl, rfl, rfl, rfl, rfl, trivial⟩
      · refine x_lssF (by rfl) (by rfl) (by rfl) hz0 ?_
        refine x_nilw ?_
        (repeat (first | refine swp_seq ?_ | refine swp_block ?_))
        refine swp_false (by rfl) (swp_skip ?_)
        have e : z = (z.toNat : Nat) := by omega
        refine ⟨rfl, z.toNat, ?_, by omega, rfl⟩
        rw [← e]
        exact at_ ⟨rfl, rfl, rfl, rfl, rfl, rfl, trivial⟩
    rintro σ w3 ⟨i, ⟨ρ, rfl⟩, hi, rfl⟩
    refine n_then ?_
    have hrdR := ownR.rd
    have hcap := own_cap ownR
    obtain ⟨x, hx⟩ := nthE hi
    obtain ⟨b2, o2, d2, he2, -, -⟩ := hrdR.pos (by omega)
    simp only [Value.slice.injEq] at he2
    obtain ⟨rfl, _, rfl⟩ := he2
    have s2 := u2.size
    (repeat (first | refine swp_seq ?_ | refine swp_block ?_)); refine swp_region (by kernel_rfl) ?_
    repeat (first | refine x_move (by rfl) ?_ | refine x_as (by rfl) (by rfl) ?_ | refine x_skip (by rfl) ?_ | refine x_fld (by rfl) (by rfl) FldO.h ?_ | refine x_nilck (by rfl) (by rfl) ?_ | refine x_len (by rfl) (by rfl) ElOf.some ?_ | refine x_ext (by rfl) (by rfl) (by rfl) ?_ | refine x_pickT (by rfl) (by rfl) (by rfl) ?_ | refine x_pickF (by rfl) (by rfl) (by rfl) ?_ | refine x_add (by rfl) (by rfl) (by rfl) (by omega) ?_ | refine x_sub (by rfl) (by rfl) (by rfl) (by omega) ?_ | refine x_not (by rfl) (by rfl) ?_)
    refine x_idx i (by rfl) (by rfl) (by rfl) ElSz.h rfl hi ?_
    refine w_load (by rfl) (by rfl) (rd_load ev_len AggT.h hrdR hx rfl rfl) ?_
    refine w_bslice (e := 30) (cs := x.cells) (by rfl) (by rfl) (by rfl) (by kernel_rfl) ?_
    intro b6 w6 e6 u6 h6
    refine w_append (more := []) (news := x.cells) (by rfl) (by rfl) (by rfl) (by rfl) SlC.h (ownO.at u6) (by rw [List.append_nil]; exact h6) (by rfl) (by rfl) (by omega) (hr.le (by omega)) ?_
    intro ov7 w7 own7 u7 hin7
    repeat (first | refine x_move (by rfl) ?_ | refine x_as (by rfl) (by rfl) ?_ | refine x_skip (by rfl) ?_ | refine x_fld (by rfl) (by rfl) FldO.h ?_ | refine x_nilck (by rfl) (by rfl) ?_ | refine x_len (by rfl) (by rfl) ElOf.some ?_ | refine x_ext (by rfl) (by rfl) (by rfl) ?_ | refine x_pickT (by rfl) (by rfl) (by rfl) ?_ | refine x_pickF (by rfl) (by rfl) (by rfl) ?_ | refine x_add (by rfl) (by rfl) (by rfl) (by omega) ?_ | refine x_sub (by rfl) (by rfl) (by rfl) (by omega) ?_ | refine x_not (by rfl) (by rfl) ?_)
    refine x_nilw ?_
    have s6 := u6.size
    have s7 := u7.size
    have ownR7 := (ownR.at u6).get u7 fun b hb hf => hd b hb hf
    have u27 : Ext w w7 := (u2.trans u6).trans' u7 fun b hb hf => by have := hfO b hf; omega
    have rd7 := ownR7.rd
    have hf7 : ∀ b, isIn ov7 b → w.heap.size ≤ b := fun b hb => by
      rcases hin7 b hb with h | h
      · exact hfO b h
      · omega
    refine swp_fit [(0, .slice a0 U.length c0), (1, .slice a1 qs.length c1), (5, .slice (some ⟨b2, o2, none⟩) R.length rc), (6, ov7), (7, .int .i64 (k : Nat)), (8, .int .i64 (i : Nat))] ⟨rfl, rfl, rfl, rfl, rfl, rfl, trivial⟩ fun ρ => ?_
    (repeat (first | refine swp_seq ?_ | refine swp_block ?_)); refine swp_region (by kernel_rfl) ?_
    repeat (first | refine x_move (by rfl) ?_ | refine x_as (by rfl) (by rfl) ?_ | refine x_skip (by rfl) ?_ | refine x_fld (by rfl) (by rfl) FldO.h ?_ | refine x_nilck (by rfl) (by rfl) ?_ | refine x_len (by rfl) (by rfl) ElOf.some ?_ | refine x_ext (by rfl) (by rfl) (by rfl) ?_ | refine x_pickT (by rfl) (by rfl) (by rfl) ?_ | refine x_pickF (by rfl) (by rfl) (by rfl) ?_ | refine x_add (by rfl) (by rfl) (by rfl) (by omega) ?_ | refine x_sub (by rfl) (by rfl) (by rfl) (by omega) ?_ | refine x_not (by rfl) (by rfl) ?_)
    refine x_nilw ?_
    (repeat (first | refine swp_seq ?_ | refine swp_block ?_)); refine swp_region (by kernel_rfl) ?_
    repeat (first | refine x_move (by rfl) ?_ | refine x_as (by rfl) (by rfl) ?_ | refine x_skip (by rfl) ?_ | refine x_fld (by rfl) (by rfl) FldO.h ?_ | refine x_nilck (by rfl) (by rfl) ?_ | refine x_len (by rfl) (by rfl) ElOf.some ?_ | refine x_ext (by rfl) (by rfl) (by rfl) ?_ | refine x_pickT (by rfl) (by rfl) (by rfl) ?_ | refine x_pickF (by rfl) (by rfl) (by rfl) ?_ | refine x_add (by rfl) (by rfl) (by rfl) (by omega) ?_ | refine x_sub (by rfl) (by rfl) (by rfl) (by omega) ?_ | refine x_not (by rfl) (by rfl) ?_)
    refine x_cutTo i (by rfl) (by rfl) (by rfl) (by kernel_rfl) rfl (by omega) ?_
    refine w_appendR (by rfl) (by rfl) (by rfl) (by rfl) SlC.h (Own.nil _ _ _) (rd7.cutTo (j := i) (by omega)) (by rw [fl_take ev_len]; exact PEv.fl_one' ev_one _) (hr.le (by omega)) ?_
    intro lv w8 own8 u8 hin8
    repeat (first | refine x_move (by rfl) ?_ | refine x_as (by rfl) (by rfl) ?_ | refine x_skip (by rfl) ?_ | refine x_fld (by rfl) (by rfl) FldO.h ?_ | refine x_nilck (by rfl) (by rfl) ?_ | refine x_len (by rfl) (by rfl) ElOf.some ?_ | refine x_ext (by rfl) (by rfl) (by rfl) ?_ | refine x_pickT (by rfl) (by rfl) (by rfl) ?_ | refine x_pickF (by rfl) (by rfl) (by rfl) ?_ | refine x_add (by rfl) (by rfl) (by rfl) (by omega) ?_ | refine x_sub (by rfl) (by rfl) (by rfl) (by omega) ?_ | refine x_not (by rfl) (by rfl) ?_)
    refine x_nilw ?_
    rw [Nat.zero_add, List.nil_append, fl_take ev_len] at own8
    have u8' : Ext w7 w8 := (Upd.refl _ w7).trans' u8 fun b _ h => h
    have s8 := u8.size
    have ownR8 := ownR7.at u8'
    have own78 := own7.at u8'
    have hl8 : ∀ b, isIn lv b → w7.heap.size ≤ b := fun b hb => (hin8 b hb).resolve_left id
    have rd8 := ownR8.rd
    (repeat (first | refine swp_seq ?_ | refine swp_block ?_)); refine swp_region (by kernel_rfl) ?_
    repeat (first | refine x_move (by rfl) ?_ | refine x_as (by rfl) (by rfl) ?_ | refine x_skip (by rfl) ?_ | refine x_fld (by rfl) (by rfl) FldO.h ?_ | refine x_nilck (by rfl) (by rfl) ?_ | refine x_len (by rfl) (by rfl) ElOf.some ?_ | refine x_ext (by rfl) (by rfl) (by rfl) ?_ | refine x_pickT (by rfl) (by rfl) (by rfl) ?_ | refine x_pickF (by rfl) (by rfl) (by rfl) ?_ | refine x_add (by rfl) (by rfl) (by rfl) (by omega) ?_ | refine x_sub (by rfl) (by rfl) (by rfl) (by omega) ?_ | refine x_not (by rfl) (by rfl) ?_)
    refine x_cutFrom (i + 1) (by rfl) (by rfl) (by rfl) ElSz.h (by omega) (by omega) ?_
    refine w_appendR (by rfl) (by rfl) (by rfl) (by rfl) SlC.h own8 (rd8.cutFrom (j := i + 1) (by omega) hcap) (by rw [fl_drop ev_len]; exact PEv.fl_one' ev_one _) (hr.le (by omega)) ?_
    intro rv9 w9 own9 u9 hin9
    repeat (first | refine x_move (by rfl) ?_ | refine x_as (by rfl) (by rfl) ?_ | refine x_skip (by rfl) ?_ | refine x_fld (by rfl) (by rfl) FldO.h ?_ | refine x_nilck (by rfl) (by rfl) ?_ | refine x_len (by rfl) (by rfl) ElOf.some ?_ | refine x_ext (by rfl) (by rfl) (by rfl) ?_ | refine x_pickT (by rfl) (by rfl) (by rfl) ?_ | refine x_pickF (by rfl) (by rfl) (by rfl) ?_ | refine x_add (by rfl) (by rfl) (by rfl) (by omega) ?_ | refine x_sub (by rfl) (by rfl) (by rfl) (by omega) ?_ | refine x_not (by rfl) (by rfl) ?_)
    refine x_nilw ?_
    (repeat (first | with_reducible refine n_then ?_ | with_reducible refine n_block ?_ | with_reducible refine n_jump ?_))
    (repeat (first | refine swp_seq ?_ | refine swp_block ?_)); refine swp_region (by kernel_rfl) ?_
    repeat (first | refine x_move (by rfl) ?_ | refine x_as (by rfl) (by rfl) ?_ | refine x_skip (by rfl) ?_ | refine x_fld (by rfl) (by rfl) FldO.h ?_ | refine x_nilck (by rfl) (by rfl) ?_ | refine x_len (by rfl) (by rfl) ElOf.some ?_ | refine x_ext (by rfl) (by rfl) (by rfl) ?_ | refine x_pickT (by rfl) (by rfl) (by rfl) ?_ | refine x_pickF (by rfl) (by rfl) (by rfl) ?_ | refine x_add (by rfl) (by rfl) (by rfl) (by omega) ?_ | refine x_sub (by rfl) (by rfl) (by rfl) (by omega) ?_ | refine x_not (by rfl) (by rfl) ?_)
    refine x_nilw ?_
    rw [fl_drop ev_len, ← fl_append] at own9
    have hlen9 : (R.take i ++ R.drop (i + 1)).length = i + (R.length - (i + 1)) := by rw [List.length_append, List.length_take, List.length_drop]; omega
    have s9 := u9.size
    have hin9' : ∀ b, isIn rv9 b → w7.heap.size ≤ b := fun b hb => by
      rcases hin9 b hb with h | h
      · exact hl8 b h
      · omega
    refine ⟨k + 1, ⟨rv9, ov7, R.take i ++ R.drop (i + 1), out ++ [x], at_ ⟨rfl, rfl, rfl, rfl, rfl, trivial⟩, by omega, by rw [List.length_append, ho]; rfl, taken hx hperm, hlen9 ▸ own9, ?_, fun b hb => by have := hin9' b hb; have := u27.size; omega, hf7, fun b hb hb' => ?_, (u27.trans u8').trans' u9 fun b hb hf => by have := hl8 b hf; have := u27.size; omega⟩, by omega⟩
    · have := own78.get u9 fun b hb hf => by have := own7.lt hb; have := hl8 b hf; omega
      rw [fl_append]
      simpa [fl_one] using this
    · have := hin9' b hb
      have := own7.lt hb'
      omega
  · have hR0 : R = [] := List.eq_nil_of_length_eq_zero (by omega)
    subst hR0
    refine swp_exit ?_; (repeat (first | with_reducible refine e_then ?_ | with_reducible refine e_jump ?_)); refine e_block ?_; (repeat (first | with_reducible refine n_then ?_ | with_reducible refine n_block ?_ | with_reducible refine n_jump ?_))
    (repeat (first | refine swp_seq ?_ | refine swp_block ?_)); refine swp_region (by kernel_rfl) ?_
    repeat (first | refine x_move (by rfl) ?_ | refine x_as (by rfl) (by rfl) ?_ | refine x_skip (by rfl) ?_ | refine x_fld (by rfl) (by rfl) FldO.h ?_ | refine x_nilck (by rfl) (by rfl) ?_ | refine x_len (by rfl) (by rfl) ElOf.some ?_ | refine x_ext (by rfl) (by rfl) (by rfl) ?_ | refine x_pickT (by rfl) (by rfl) (by rfl) ?_ | refine x_pickF (by rfl) (by rfl) (by rfl) ?_ | refine x_add (by rfl) (by rfl) (by rfl) (by omega) ?_ | refine x_sub (by rfl) (by rfl) (by rfl) (by omega) ?_ | refine x_not (by rfl) (by rfl) ?_)
    refine x_nilw ?_
    refine swp_ret ?_; (repeat (first | with_reducible refine r_then ?_ | with_reducible refine r_block ?_ | with_reducible refine r_jump ?_))
    rw [List.append_nil] at hperm
    exact post1 rfl rfl ⟨_, rfl, out, hperm, by rw [ho]; exact ownO, hfO, u2⟩
end Go.Proofs.Ytfcbiclmejeihaa
