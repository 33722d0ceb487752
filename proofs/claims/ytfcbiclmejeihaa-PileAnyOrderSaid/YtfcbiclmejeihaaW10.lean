/- PileAnyOrder's walk: it answers true. Conditions: fewer than 2^60 things in each list; room. -/
import Derived.Test.YtfcbiclmejeihaaUy
import Derived.Test.YtfcbiclmejeihaaMd
namespace Go.Proofs.Ytfcbiclmejeihaa
open Hp Sx

set_option maxHeartbeats 2000000 in
set_option maxRecDepth 100000 in
theorem walk10 {w : World} {sv qv : Value} {xs : List Ev} {qs : List Int} (h : Rd w 11 sv xs.length (fl Ev.cells xs)) (hq : Rd w 1 qv qs.length (fl encI qs)) (hr : Room xs.length 96) (hl : xs.length ≤ 1152921504606846975) (hql : qs.length ≤ 4611686018427387903) :
    Gets Try.prog 10 [sv, qv] w fun v w' => v = .bool true ∧ Ext w w' := by
  have hr8 : Room xs.length 88 := hr.bytes (by omega)
  obtain ⟨a1, c1, rfl⟩ := hq.slice
  have hUl : (xs.foldl uq []).length ≤ xs.length := by simpa using uqs_length xs []
  have hap : Apart elt (xs.foldl uq []) := uqs_apart xs [] List.Pairwise.nil
  refine ⟨GoFn.h, calls_of_swp 76 Try.func10 Try.ntmps10 rfl (Nat.le_of_ble_eq_true rfl) ?_⟩
  (repeat (first | refine swp_seq ?_ | refine swp_block ?_)); refine swp_region (by kernel_rfl) ?_
  repeat (first | refine x_move (by rfl) ?_ | refine x_as (by rfl) (by rfl) ?_ | refine x_skip (by rfl) ?_ | refine x_fld (by rfl) (by rfl) FldO.h ?_ | refine x_nilck (by rfl) (by rfl) ?_ | refine x_len (by rfl) (by rfl) ElOf.some ?_ | refine x_ext (by rfl) (by rfl) (by rfl) ?_ | refine x_pickT (by rfl) (by rfl) (by rfl) ?_ | refine x_pickF (by rfl) (by rfl) (by rfl) ?_ | refine x_add (by rfl) (by rfl) (by rfl) (by omega) ?_ | refine x_sub (by rfl) (by rfl) (by rfl) (by omega) ?_ | refine x_not (by rfl) (by rfl) ?_)
  refine x_nilw ?_
  (repeat (first | refine swp_seq ?_ | refine swp_block ?_)); refine swp_region (by kernel_rfl) ?_
  repeat (first | refine x_move (by rfl) ?_ | refine x_as (by rfl) (by rfl) ?_ | refine x_skip (by rfl) ?_ | refine x_fld (by rfl) (by rfl) FldO.h ?_ | refine x_nilck (by rfl) (by rfl) ?_ | refine x_len (by rfl) (by rfl) ElOf.some ?_ | refine x_ext (by rfl) (by rfl) (by rfl) ?_ | refine x_pickT (by rfl) (by rfl) (by rfl) ?_ | refine x_pickF (by rfl) (by rfl) (by rfl) ?_ | refine x_add (by rfl) (by rfl) (by rfl) (by omega) ?_ | refine x_sub (by rfl) (by rfl) (by rfl) (by omega) ?_ | refine x_not (by rfl) (by rfl) ?_)
  refine w_call (by rfl) (by rfl) (by rfl) (unlike h hr8) ?_
  rintro uv w1 ⟨own1, _, u1⟩
  repeat (first | refine x_move (by rfl) ?_ | refine x_as (by rfl) (by rfl) ?_ | refine x_skip (by rfl) ?_ | refine x_fld (by rfl) (by rfl) FldO.h ?_ | refine x_nilck (by rfl) (by rfl) ?_ | refine x_len (by rfl) (by rfl) ElOf.some ?_ | refine x_ext (by rfl) (by rfl) (by rfl) ?_ | refine x_pickT (by rfl) (by rfl) (by rfl) ?_ | refine x_pickF (by rfl) (by rfl) (by rfl) ?_ | refine x_add (by rfl) (by rfl) (by rfl) (by omega) ?_ | refine x_sub (by rfl) (by rfl) (by rfl) (by omega) ?_ | refine x_not (by rfl) (by rfl) ?_)
  refine x_nilw ?_
  generalize xs.foldl uq [] = U at own1 hUl hap
  replace hr := hr.le hUl
  replace hr8 := hr8.le hUl
  replace hl := Nat.le_trans hUl hl
  have hrU := own1.rd
  obtain ⟨a0, c0, rfl⟩ := hrU.slice
  (repeat (first | refine swp_seq ?_ | refine swp_block ?_)); refine swp_region (by kernel_rfl) ?_
  repeat (first | refine x_move (by rfl) ?_ | refine x_as (by rfl) (by rfl) ?_ | refine x_skip (by rfl) ?_ | refine x_fld (by rfl) (by rfl) FldO.h ?_ | refine x_nilck (by rfl) (by rfl) ?_ | refine x_len (by rfl) (by rfl) ElOf.some ?_ | refine x_ext (by rfl) (by rfl) (by rfl) ?_ | refine x_pickT (by rfl) (by rfl) (by rfl) ?_ | refine x_pickF (by rfl) (by rfl) (by rfl) ?_ | refine x_add (by rfl) (by rfl) (by rfl) (by omega) ?_ | refine x_sub (by rfl) (by rfl) (by rfl) (by omega) ?_ | refine x_not (by rfl) (by rfl) ?_)
  refine w_call (by rfl) (by rfl) (by rfl) (PEv.sort elt_ord hrU hr hr8 (by omega)) ?_
  rintro v2 w2 ⟨own2, _, u2⟩
  repeat (first | refine x_move (by rfl) ?_ | refine x_as (by rfl) (by rfl) ?_ | refine x_skip (by rfl) ?_ | refine x_fld (by rfl) (by rfl) FldO.h ?_ | refine x_nilck (by rfl) (by rfl) ?_ | refine x_len (by rfl) (by rfl) ElOf.some ?_ | refine x_ext (by rfl) (by rfl) (by rfl) ?_ | refine x_pickT (by rfl) (by rfl) (by rfl) ?_ | refine x_pickF (by rfl) (by rfl) (by rfl) ?_ | refine x_add (by rfl) (by rfl) (by rfl) (by omega) ?_ | refine x_sub (by rfl) (by rfl) (by rfl) (by omega) ?_ | refine x_not (by rfl) (by rfl) ?_)
  refine x_nilw ?_
  have hlen : (U.foldl (put elt) []).length = U.length := by rw [len_foldl_put]; simp
  rw [hlen] at own2
  obtain ⟨a2, c2, rfl⟩ := own2.slice
  (repeat (first | refine swp_seq ?_ | refine swp_block ?_)); refine swp_region (by kernel_rfl) ?_
  repeat (first | refine x_move (by rfl) ?_ | refine x_as (by rfl) (by rfl) ?_ | refine x_skip (by rfl) ?_ | refine x_fld (by rfl) (by rfl) FldO.h ?_ | refine x_nilck (by rfl) (by rfl) ?_ | refine x_len (by rfl) (by rfl) ElOf.some ?_ | refine x_ext (by rfl) (by rfl) (by rfl) ?_ | refine x_pickT (by rfl) (by rfl) (by rfl) ?_ | refine x_pickF (by rfl) (by rfl) (by rfl) ?_ | refine x_add (by rfl) (by rfl) (by rfl) (by omega) ?_ | refine x_sub (by rfl) (by rfl) (by rfl) (by omega) ?_ | refine x_not (by rfl) (by rfl) ?_)
  refine x_neqF (by rfl) (by rfl) (by rfl) (fun h => h rfl) ?_
  refine x_nilw ?_
  (repeat (first | refine swp_seq ?_ | refine swp_block ?_))
  refine swp_false (by rfl) (swp_skip ?_)
  (repeat (first | with_reducible refine n_then ?_ | with_reducible refine n_block ?_ | with_reducible refine n_jump ?_))
  (repeat (first | refine swp_seq ?_ | refine swp_block ?_)); refine swp_region (by kernel_rfl) ?_
  refine w_call (by rfl) (by rfl) (by rfl) (PEv.new w2) ?_
  rintro _ w3 ⟨bp, rfl, hbp, u3, hp3⟩
  repeat (first | refine x_move (by rfl) ?_ | refine x_as (by rfl) (by rfl) ?_ | refine x_skip (by rfl) ?_ | refine x_fld (by rfl) (by rfl) FldO.h ?_ | refine x_nilck (by rfl) (by rfl) ?_ | refine x_len (by rfl) (by rfl) ElOf.some ?_ | refine x_ext (by rfl) (by rfl) (by rfl) ?_ | refine x_pickT (by rfl) (by rfl) (by rfl) ?_ | refine x_pickF (by rfl) (by rfl) (by rfl) ?_ | refine x_add (by rfl) (by rfl) (by rfl) (by omega) ?_ | refine x_sub (by rfl) (by rfl) (by rfl) (by omega) ?_ | refine x_not (by rfl) (by rfl) ?_)
  refine x_nilw ?_
  (repeat (first | refine swp_seq ?_ | refine swp_block ?_)); refine swp_region (by kernel_rfl) ?_
  repeat (first | refine x_move (by rfl) ?_ | refine x_as (by rfl) (by rfl) ?_ | refine x_skip (by rfl) ?_ | refine x_fld (by rfl) (by rfl) FldO.h ?_ | refine x_nilck (by rfl) (by rfl) ?_ | refine x_len (by rfl) (by rfl) ElOf.some ?_ | refine x_ext (by rfl) (by rfl) (by rfl) ?_ | refine x_pickT (by rfl) (by rfl) (by rfl) ?_ | refine x_pickF (by rfl) (by rfl) (by rfl) ?_ | refine x_add (by rfl) (by rfl) (by rfl) (by omega) ?_ | refine x_sub (by rfl) (by rfl) (by rfl) (by omega) ?_ | refine x_not (by rfl) (by rfl) ?_)
  refine x_eqlP Try.underlying25 (by rfl) (by rfl) (by rfl) ?_
  refine x_nilw ?_
  (repeat (first | refine swp_seq ?_ | refine swp_block ?_))
  refine swp_false (by rfl) (swp_skip ?_)
  (repeat (first | with_reducible refine n_then ?_ | with_reducible refine n_block ?_ | with_reducible refine n_jump ?_))
  have u13 := u2.trans u3
  have u03 := u1.trans u13
  have s1 := u1.size
  have s13 := u13.size
  have s3 := u3.size
  have s2 := u2.size
  (repeat (first | refine swp_seq ?_ | refine swp_block ?_)); refine swp_region (by kernel_rfl) ?_
  repeat (first | refine x_move (by rfl) ?_ | refine x_as (by rfl) (by rfl) ?_ | refine x_skip (by rfl) ?_ | refine x_fld (by rfl) (by rfl) FldO.h ?_ | refine x_nilck (by rfl) (by rfl) ?_ | refine x_len (by rfl) (by rfl) ElOf.some ?_ | refine x_ext (by rfl) (by rfl) (by rfl) ?_ | refine x_pickT (by rfl) (by rfl) (by rfl) ?_ | refine x_pickF (by rfl) (by rfl) (by rfl) ?_ | refine x_add (by rfl) (by rfl) (by rfl) (by omega) ?_ | refine x_sub (by rfl) (by rfl) (by rfl) (by omega) ?_ | refine x_not (by rfl) (by rfl) ?_)
  refine w_call (by rfl) (by rfl) (by rfl) (shuffled (hrU.at u13) (hq.at u03) hr8 hql) ?_
  rintro tv w4 ⟨T, hT, own4, hf4, u4⟩
  repeat (first | refine x_move (by rfl) ?_ | refine x_as (by rfl) (by rfl) ?_ | refine x_skip (by rfl) ?_ | refine x_fld (by rfl) (by rfl) FldO.h ?_ | refine x_nilck (by rfl) (by rfl) ?_ | refine x_len (by rfl) (by rfl) ElOf.some ?_ | refine x_ext (by rfl) (by rfl) (by rfl) ?_ | refine x_pickT (by rfl) (by rfl) (by rfl) ?_ | refine x_pickF (by rfl) (by rfl) (by rfl) ?_ | refine x_add (by rfl) (by rfl) (by rfl) (by omega) ?_ | refine x_sub (by rfl) (by rfl) (by rfl) (by omega) ?_ | refine x_not (by rfl) (by rfl) ?_)
  refine x_nilw ?_
  have hTl : T.length = U.length := hT.length_eq
  have s4 := u4.size
  have rd4 := own4.rd
  obtain ⟨a4, c4, rfl⟩ := rd4.slice
  have hapT : Apart elt T := hap.perm hT.symm
  have hend : T.foldl (put elt) [] = U.foldl (put elt) [] := foldl_put_any elt_ord hapT hT
  (repeat (first | refine swp_seq ?_ | refine swp_block ?_)); refine swp_region (by kernel_rfl) ?_
  repeat (first | refine x_move (by rfl) ?_ | refine x_as (by rfl) (by rfl) ?_ | refine x_skip (by rfl) ?_ | refine x_fld (by rfl) (by rfl) FldO.h ?_ | refine x_nilck (by rfl) (by rfl) ?_ | refine x_len (by rfl) (by rfl) ElOf.some ?_ | refine x_ext (by rfl) (by rfl) (by rfl) ?_ | refine x_pickT (by rfl) (by rfl) (by rfl) ?_ | refine x_pickF (by rfl) (by rfl) (by rfl) ?_ | refine x_add (by rfl) (by rfl) (by rfl) (by omega) ?_ | refine x_sub (by rfl) (by rfl) (by rfl) (by omega) ?_ | refine x_not (by rfl) (by rfl) ?_)
  refine x_nilw ?_
  (repeat (first | refine swp_seq ?_ | refine swp_block ?_))
  have hpf : ∀ b, PEv.foot bp (.slice none 0 0) b → w.heap.size ≤ b := by
    rintro b (rfl | h)
    · omega
    · exact h.elim
  have hpt : ∀ b, PEv.foot bp (.slice none 0 0) b → ¬ isIn (.slice a4 T.length c4) b := by
    rintro b (rfl | h) hb
    · have := hf4 _ hb; have := hp3.lt (.inl rfl); omega
    · exact h.elim
  refine swp_loop (fun (i : Nat) σ w5 => ∃ sp N, At σ [(1, .slice a1 qs.length c1), (5, .slice a0 U.length c0), (6, .slice a2 U.length c2), (7, .pointer (some ⟨bp, 0, none⟩)), (8, .slice a4 T.length c4), (9, .int .i64 (i : Nat))] ∧ i ≤ T.length ∧ PEv.Pile w5 bp sp ((T.take i).foldl (put elt) []) N ∧ N ≤ 2 * i ∧ (∀ b, PEv.foot bp sp b → ¬ isIn (.slice a4 T.length c4) b ∧ w2.heap.size ≤ b) ∧ Rd w5 11 (.slice a4 T.length c4) T.length (fl Ev.cells T) ∧ w4.heap.size ≤ w5.heap.size ∧ Ext w2 w5) (fun i => T.length - i) 0 ⟨.slice none 0 0, 0, at_ ⟨rfl, rfl, rfl, rfl, rfl, rfl, trivial⟩, by omega, hp3.at u4, by omega, fun b hb => ⟨hpt b hb, ?_⟩, rd4, Nat.le_refl _, u3.trans u4⟩ ?_
  · rcases hb with rfl | h
    · exact hbp
    · exact h.elim
  rintro i σ w5 ⟨sp, N, ⟨ρ, rfl⟩, hi, hp5, hN, hd5, g5, z5, u5⟩
  (repeat (first | refine swp_seq ?_ | refine swp_block ?_)); refine swp_region (by kernel_rfl) ?_
  repeat (first | refine x_move (by rfl) ?_ | refine x_as (by rfl) (by rfl) ?_ | refine x_skip (by rfl) ?_ | refine x_fld (by rfl) (by rfl) FldO.h ?_ | refine w_load (by rfl) (by rfl) (load_one OneT.h (by assumption) (by rfl)) ?_ | refine x_nilck (by rfl) (by rfl) ?_ | refine x_len (by rfl) (by rfl) ElOf.some ?_ | refine x_iface (by rfl) (by rfl) NIf.h ?_ | refine x_ext (by rfl) (by rfl) (by rfl) ?_ | refine x_pickT (by rfl) (by rfl) (by rfl) ?_ | refine x_pickF (by rfl) (by rfl) (by rfl) ?_ | refine x_add (by rfl) (by rfl) (by rfl) (by omega) ?_ | refine x_sub (by rfl) (by rfl) (by rfl) (by omega) ?_ | refine x_lss (by rfl) (by rfl) (by rfl) ?_ | refine x_geq (by rfl) (by rfl) (by rfl) ?_ | refine x_leq (by rfl) (by rfl) (by rfl) ?_ | refine x_gtr (by rfl) (by rfl) (by rfl) ?_ | refine x_eql (by rfl) (by rfl) (by rfl) ?_ | refine x_neq (by rfl) (by rfl) (by rfl) ?_ | refine x_not (by rfl) (by rfl) ?_)
  refine x_nilw ?_
  (repeat (first | refine swp_seq ?_ | refine swp_block ?_))
  refine swp_if (by rfl) (fun h0 => swp_skip ?_) (fun h0 => ?_)
  · have hi' : i < T.length := by omega
    obtain ⟨x, hx⟩ := nthE hi'
    obtain ⟨b1, o1, d1, he1, -, -⟩ := rd4.pos (by omega)
    simp only [Value.slice.injEq] at he1
    obtain ⟨rfl, _, rfl⟩ := he1
    have hli : ((T.take i).foldl (put elt) []).length = i := by rw [len_foldl_put, List.length_take]; simp; omega
    have hris : Rising elt ((T.take (i + 1)).foldl (put elt) []) := apart_rising elt_ord (List.Pairwise.sublist (List.take_sublist _ _) hapT)
    have hlj : ((T.take (i + 1)).foldl (put elt) []).length = i + 1 := by rw [len_foldl_put, List.length_take]; simp; omega
    (repeat (first | with_reducible refine n_then ?_ | with_reducible refine n_block ?_ | with_reducible refine n_jump ?_))
    (repeat (first | refine swp_seq ?_ | refine swp_block ?_)); refine swp_region (by kernel_rfl) ?_
    repeat (first | refine x_move (by rfl) ?_ | refine x_as (by rfl) (by rfl) ?_ | refine x_skip (by rfl) ?_ | refine x_fld (by rfl) (by rfl) FldO.h ?_ | refine x_nilck (by rfl) (by rfl) ?_ | refine x_len (by rfl) (by rfl) ElOf.some ?_ | refine x_ext (by rfl) (by rfl) (by rfl) ?_ | refine x_pickT (by rfl) (by rfl) (by rfl) ?_ | refine x_pickF (by rfl) (by rfl) (by rfl) ?_ | refine x_add (by rfl) (by rfl) (by rfl) (by omega) ?_ | refine x_sub (by rfl) (by rfl) (by rfl) (by omega) ?_ | refine x_not (by rfl) (by rfl) ?_)
    refine x_idx i (by rfl) (by rfl) (by rfl) ElSz.h rfl hi' ?_
    refine w_load (by rfl) (by rfl) (rd_load ev_len AggT.h g5 hx rfl rfl) ?_
    refine w_call (by rfl) (by rfl) (by rfl) (PEv.push elt_ord x hp5 (by omega) (hr.le (by omega))) ?_
    rintro _ w6 ⟨rfl, sp6, hp6, u6, hin6⟩
    refine x_nilw ?_
    rw [← foldl_take_succ (f := put elt) (b := []) hx] at hp6
    generalize hSd : (T.take (i + 1)).foldl (put elt) [] = S at hp6 hris hlj
    have s5 := u5.size
    have u26 := u5.trans' u6 fun b hb hf => by have := (hd5 b hf).2; omega
    have s26 := u26.size
    have in5 : ∀ b, isIn (.slice (some ⟨b1, o1, none⟩) T.length c4) b → b < w5.heap.size := fun b hb => by have := own4.lt hb; omega
    have g6 := g5.get u6 fun b hb hf => (hd5 b hf).1 hb
    have hd6 : ∀ b, PEv.foot bp sp6 b → ¬ isIn (.slice (some ⟨b1, o1, none⟩) T.length c4) b ∧ w2.heap.size ≤ b := fun b hb => by
      rcases hb with h | h
      · exact hd5 b (.inl h)
      · rcases hin6 b h with h | h
        · exact hd5 b (.inr h)
        · exact ⟨fun hb => by have := in5 b hb; omega, by omega⟩
    refine swp_fit [(1, .slice a1 qs.length c1), (5, .slice a0 U.length c0), (6, .slice a2 U.length c2), (7, .pointer (some ⟨bp, 0, none⟩)), (8, .slice (some ⟨b1, o1, none⟩) T.length c4), (9, .int .i64 (i : Nat))] ⟨rfl, rfl, rfl, rfl, rfl, rfl, trivial⟩ fun ρ => ?_
    refine swp_seq ?_
    refine PEv.swp_cutQ (fun σ w7 => ∃ go, At σ [(1, .slice a1 qs.length c1), (5, .slice a0 U.length c0), (6, .slice a2 U.length c2), (7, .pointer (some ⟨bp, 0, none⟩)), (8, .slice (some ⟨b1, o1, none⟩) T.length c4), (9, .int .i64 (i : Nat)), (53, .bool go)] ∧ w6 = w7) ?_ ?_
    · (repeat (first | refine swp_seq ?_ | refine swp_block ?_)); refine swp_region (by kernel_rfl) ?_
      repeat (first | refine x_move (by rfl) ?_ | refine x_as (by rfl) (by rfl) ?_ | refine x_skip (by rfl) ?_ | refine x_fld (by rfl) (by rfl) FldO.h ?_ | refine x_nilck (by rfl) (by rfl) ?_ | refine x_len (by rfl) (by rfl) ElOf.some ?_ | refine x_ext (by rfl) (by rfl) (by rfl) ?_ | refine x_pickT (by rfl) (by rfl) (by rfl) ?_ | refine x_pickF (by rfl) (by rfl) (by rfl) ?_ | refine x_add (by rfl) (by rfl) (by rfl) (by omega) ?_ | refine x_sub (by rfl) (by rfl) (by rfl) (by omega) ?_ | refine x_not (by rfl) (by rfl) ?_)
      by_cases hq0 : 0 < qs.length
      · refine x_gtrT (by rfl) (by rfl) (by rfl) (by omega) ?_
        have gq := hq.at ((u1.trans u2).trans u26)
        have hm : i % qs.length < qs.length := Nat.mod_lt _ hq0
        obtain ⟨q, hqq⟩ := nthE hm
        obtain ⟨b3, o3, d3, he3, -, -⟩ := hq.pos (by omega)
        simp only [Value.slice.injEq] at he3
        obtain ⟨rfl, _, rfl⟩ := he3
        repeat (first | refine x_move (by rfl) ?_ | refine x_as (by rfl) (by rfl) ?_ | refine x_skip (by rfl) ?_ | refine x_fld (by rfl) (by rfl) FldO.h ?_ | refine x_nilck (by rfl) (by rfl) ?_ | refine x_len (by rfl) (by rfl) ElOf.some ?_ | refine x_ext (by rfl) (by rfl) (by rfl) ?_ | refine x_pickT (by rfl) (by rfl) (by rfl) ?_ | refine x_pickF (by rfl) (by rfl) (by rfl) ?_ | refine x_add (by rfl) (by rfl) (by rfl) (by omega) ?_ | refine x_sub (by rfl) (by rfl) (by rfl) (by omega) ?_ | refine x_not (by rfl) (by rfl) ?_)
        refine x_rem (by rfl) (by rfl) (by rfl) (by omega) ?_
        refine x_idx (i % qs.length) (by rfl) (by rfl) (by rfl) ElSz.h (tmod_nat i qs.length) hm ?_
        refine w_load (v := .int .i64 q) (by rfl) (by rfl) (load_one_cell OneT.h (rd_cell (j := 0) encI_len gq hqq rfl rfl rfl)) ?_
        refine x_and (by rfl) (by rfl) (by rfl) ?_
        generalize (IntKind.i64.wrap _) = z
        refine x_eql (by rfl) (by rfl) (by rfl) ?_
        repeat (first | refine x_move (by rfl) ?_ | refine x_as (by rfl) (by rfl) ?_ | refine x_skip (by rfl) ?_ | refine x_fld (by rfl) (by rfl) FldO.h ?_ | refine x_nilck (by rfl) (by rfl) ?_ | refine x_len (by rfl) (by rfl) ElOf.some ?_ | refine x_ext (by rfl) (by rfl) (by rfl) ?_ | refine x_pickT (by rfl) (by rfl) (by rfl) ?_ | refine x_pickF (by rfl) (by rfl) (by rfl) ?_ | refine x_add (by rfl) (by rfl) (by rfl) (by omega) ?_ | refine x_sub (by rfl) (by rfl) (by rfl) (by omega) ?_ | refine x_not (by rfl) (by rfl) ?_)
        refine x_nilw ?_
        exact ⟨rfl, _, at_ ⟨rfl, rfl, rfl, rfl, rfl, rfl, rfl, trivial⟩, rfl⟩
      · refine x_gtrF (by rfl) (by rfl) (by rfl) (by omega) ?_
        repeat (first | refine x_move (by rfl) ?_ | refine x_as (by rfl) (by rfl) ?_ | refine x_skip (by rfl) ?_ | refine x_fld (by rfl) (by rfl) FldO.h ?_ | refine x_nilck (by rfl) (by rfl) ?_ | refine x_len (by rfl) (by rfl) ElOf.some ?_ | refine x_ext (by rfl) (by rfl) (by rfl) ?_ | refine x_pickT (by rfl) (by rfl) (by rfl) ?_ | refine x_pickF (by rfl) (by rfl) (by rfl) ?_ | refine x_add (by rfl) (by rfl) (by rfl) (by omega) ?_ | refine x_sub (by rfl) (by rfl) (by rfl) (by omega) ?_ | refine x_not (by rfl) (by rfl) ?_)
        refine x_nilw ?_
        exact ⟨rfl, _, at_ ⟨rfl, rfl, rfl, rfl, rfl, rfl, rfl, trivial⟩, rfl⟩
    rintro σ w7 ⟨go, ⟨ρ, rfl⟩, rfl⟩
    refine n_then ?_
    refine swp_ifb (by rfl) (fun _ => ?_) (fun _ => swp_skip ?_)
    · obtain ⟨y, S', rfl⟩ : ∃ y S', S = y :: S' := by
        cases S with
        | nil => simp at hlj
        | cons y S' => exact ⟨y, S', rfl⟩
      simp only [List.length_cons] at hlj
      (repeat (first | refine swp_seq ?_ | refine swp_block ?_)); refine swp_region (by kernel_rfl) ?_
      repeat (first | refine x_move (by rfl) ?_ | refine x_as (by rfl) (by rfl) ?_ | refine x_skip (by rfl) ?_ | refine x_fld (by rfl) (by rfl) FldO.h ?_ | refine x_nilck (by rfl) (by rfl) ?_ | refine x_len (by rfl) (by rfl) ElOf.some ?_ | refine x_ext (by rfl) (by rfl) (by rfl) ?_ | refine x_pickT (by rfl) (by rfl) (by rfl) ?_ | refine x_pickF (by rfl) (by rfl) (by rfl) ?_ | refine x_add (by rfl) (by rfl) (by rfl) (by omega) ?_ | refine x_sub (by rfl) (by rfl) (by rfl) (by omega) ?_ | refine x_not (by rfl) (by rfl) ?_)
      refine w_call (by rfl) (by rfl) (by rfl) (PEv.pop elt_ord hp6 (by simp; omega)) ?_
      rintro _ w8 ⟨rfl, sp8, hp8, u8, hin8⟩
      rw [show PEv.popV (y :: S') = .tuple #[y.v, .bool true] from rfl]
      repeat (first | refine x_move (by rfl) ?_ | refine x_as (by rfl) (by rfl) ?_ | refine x_skip (by rfl) ?_ | refine x_fld (by rfl) (by rfl) FldO.h ?_ | refine x_nilck (by rfl) (by rfl) ?_ | refine x_len (by rfl) (by rfl) ElOf.some ?_ | refine x_ext (by rfl) (by rfl) (by rfl) ?_ | refine x_pickT (by rfl) (by rfl) (by rfl) ?_ | refine x_pickF (by rfl) (by rfl) (by rfl) ?_ | refine x_add (by rfl) (by rfl) (by rfl) (by omega) ?_ | refine x_sub (by rfl) (by rfl) (by rfl) (by omega) ?_ | refine x_not (by rfl) (by rfl) ?_)
      refine w_alloc (by rfl) (by rfl) ZeroT.h ?_; intro b9 w9 e9 u9 h9
      refine w_store (xs := y.cells) (by rfl) (by rfl) (by rfl) (by rfl) SzT.h (by rfl) (by rfl) h9 (by simp) ?_
      intro w10 u10 h10 _
      repeat (first | refine x_move (by rfl) ?_ | refine x_as (by rfl) (by rfl) ?_ | refine x_skip (by rfl) ?_ | refine x_fld (by rfl) (by rfl) FldO.h ?_ | refine x_nilck (by rfl) (by rfl) ?_ | refine x_len (by rfl) (by rfl) ElOf.some ?_ | refine x_ext (by rfl) (by rfl) (by rfl) ?_ | refine x_pickT (by rfl) (by rfl) (by rfl) ?_ | refine x_pickF (by rfl) (by rfl) (by rfl) ?_ | refine x_add (by rfl) (by rfl) (by rfl) (by omega) ?_ | refine x_sub (by rfl) (by rfl) (by rfl) (by omega) ?_ | refine x_not (by rfl) (by rfl) ?_)
      refine x_nilw ?_
      replace h10 : Blk w10 b9 30 y.cells := h10
      have s8 := u8.size; have s9 := u9.size; have s10 := u10.size
      have hd8 : ∀ b, PEv.foot bp sp8 b → PEv.foot bp sp6 b := fun b hb => hb.imp id (hin8 b)
      have hp10 := (hp8.at u9).get u10 fun b hb e => by have := hp8.lt hb; have e' : b = b9 := e; omega
      have g10 := ((g6.get u8 fun b hb hf => (hd6 b hf).1 hb).at u9).get u10 fun b hb e => by have := in5 b hb; have e' : b = b9 := e; have := u6.size; omega
      have u210 := ((u26.trans' u8 fun b hb hf => by have := (hd6 b hf).2; omega).trans u9).trans' u10 fun b hb e => by have e' : b = b9 := e; omega
      (repeat (first | refine swp_seq ?_ | refine swp_block ?_)); refine swp_region (by kernel_rfl) ?_
      repeat (first | refine x_move (by rfl) ?_ | refine x_as (by rfl) (by rfl) ?_ | refine x_skip (by rfl) ?_ | refine x_fld (by rfl) (by rfl) FldO.h ?_ | refine x_nilck (by rfl) (by rfl) ?_ | refine x_len (by rfl) (by rfl) ElOf.some ?_ | refine x_ext (by rfl) (by rfl) (by rfl) ?_ | refine x_pickT (by rfl) (by rfl) (by rfl) ?_ | refine x_pickF (by rfl) (by rfl) (by rfl) ?_ | refine x_add (by rfl) (by rfl) (by rfl) (by omega) ?_ | refine x_sub (by rfl) (by rfl) (by rfl) (by omega) ?_ | refine x_not (by rfl) (by rfl) ?_)
      refine x_nilw ?_
      (repeat (first | refine swp_seq ?_ | refine swp_block ?_))
      refine swp_false (by rfl) (swp_skip ?_)
      (repeat (first | with_reducible refine n_then ?_ | with_reducible refine n_block ?_ | with_reducible refine n_jump ?_))
      (repeat (first | refine swp_seq ?_ | refine swp_block ?_)); refine swp_region (by kernel_rfl) ?_
      repeat (first | refine x_move (by rfl) ?_ | refine x_as (by rfl) (by rfl) ?_ | refine x_skip (by rfl) ?_ | refine x_fld (by rfl) (by rfl) FldO.h ?_ | refine x_nilck (by rfl) (by rfl) ?_ | refine x_len (by rfl) (by rfl) ElOf.some ?_ | refine x_ext (by rfl) (by rfl) (by rfl) ?_ | refine x_pickT (by rfl) (by rfl) (by rfl) ?_ | refine x_pickF (by rfl) (by rfl) (by rfl) ?_ | refine x_add (by rfl) (by rfl) (by rfl) (by omega) ?_ | refine x_sub (by rfl) (by rfl) (by rfl) (by omega) ?_ | refine x_not (by rfl) (by rfl) ?_)
      refine w_load (by rfl) (by rfl) (load_agg (xs := y.cells) AggT.h h10 (by rfl) (by rfl)) ?_
      refine w_call (by rfl) (by rfl) (by rfl) (PEv.push elt_ord y hp10 (by omega) (hr.le (by simp; omega))) ?_
      rintro _ w11 ⟨rfl, sp11, hp11, u11, hin11⟩
      refine x_nilw ?_
      (repeat (first | with_reducible refine n_then ?_ | with_reducible refine n_block ?_ | with_reducible refine n_jump ?_))
      (repeat (first | refine swp_seq ?_ | refine swp_block ?_)); refine swp_region (by kernel_rfl) ?_
      repeat (first | refine x_move (by rfl) ?_ | refine x_as (by rfl) (by rfl) ?_ | refine x_skip (by rfl) ?_ | refine x_fld (by rfl) (by rfl) FldO.h ?_ | refine x_nilck (by rfl) (by rfl) ?_ | refine x_len (by rfl) (by rfl) ElOf.some ?_ | refine x_ext (by rfl) (by rfl) (by rfl) ?_ | refine x_pickT (by rfl) (by rfl) (by rfl) ?_ | refine x_pickF (by rfl) (by rfl) (by rfl) ?_ | refine x_add (by rfl) (by rfl) (by rfl) (by omega) ?_ | refine x_sub (by rfl) (by rfl) (by rfl) (by omega) ?_ | refine x_not (by rfl) (by rfl) ?_)
      refine x_nilw ?_
      rw [show put elt (y :: S').tail y = y :: S' from put_head hris] at hp11
      have g11 := g10.get u11 fun b hb hf => (hd6 b (hd8 b hf)).1 hb
      have s210 := u210.size
      refine ⟨i + 1, ⟨sp11, N + 1 + 1, at_ ⟨rfl, rfl, rfl, rfl, rfl, rfl, trivial⟩, by omega, by rw [hSd]; exact hp11, by omega, fun b hb => ?_, g11, by have := u6.size; have := u11.size; omega, u210.trans' u11 fun b hb hf => by have := (hd6 b (hd8 b hf)).2; omega⟩, by omega⟩
      · rcases hb with h | h
        · exact hd6 b (.inl h)
        · rcases hin11 b h with h | h
          · exact hd6 b (hd8 b (.inr h))
          · exact ⟨fun hb => by have := in5 b hb; have := u6.size; omega, by omega⟩
    · (repeat (first | with_reducible refine n_then ?_ | with_reducible refine n_block ?_ | with_reducible refine n_jump ?_))
      (repeat (first | refine swp_seq ?_ | refine swp_block ?_)); refine swp_region (by kernel_rfl) ?_
      repeat (first | refine x_move (by rfl) ?_ | refine x_as (by rfl) (by rfl) ?_ | refine x_skip (by rfl) ?_ | refine x_fld (by rfl) (by rfl) FldO.h ?_ | refine x_nilck (by rfl) (by rfl) ?_ | refine x_len (by rfl) (by rfl) ElOf.some ?_ | refine x_ext (by rfl) (by rfl) (by rfl) ?_ | refine x_pickT (by rfl) (by rfl) (by rfl) ?_ | refine x_pickF (by rfl) (by rfl) (by rfl) ?_ | refine x_add (by rfl) (by rfl) (by rfl) (by omega) ?_ | refine x_sub (by rfl) (by rfl) (by rfl) (by omega) ?_ | refine x_not (by rfl) (by rfl) ?_)
      refine x_nilw ?_
      exact ⟨i + 1, ⟨sp6, N + 1, at_ ⟨rfl, rfl, rfl, rfl, rfl, rfl, trivial⟩, by omega, by rw [hSd]; exact hp6, by omega, hd6, g6, by have := u6.size; omega, u26⟩, by omega⟩
  · have hin : i = T.length := by omega
    subst hin
    rw [List.take_length, hend] at hp5
    refine swp_exit ?_; (repeat (first | with_reducible refine e_then ?_ | with_reducible refine e_jump ?_)); refine e_block ?_; (repeat (first | with_reducible refine n_then ?_ | with_reducible refine n_block ?_ | with_reducible refine n_jump ?_))
    (repeat (first | refine swp_seq ?_ | refine swp_block ?_)); refine swp_region (by kernel_rfl) ?_
    repeat (first | refine x_move (by rfl) ?_ | refine x_as (by rfl) (by rfl) ?_ | refine x_skip (by rfl) ?_ | refine x_fld (by rfl) (by rfl) FldO.h ?_ | refine x_nilck (by rfl) (by rfl) ?_ | refine x_len (by rfl) (by rfl) ElOf.some ?_ | refine x_ext (by rfl) (by rfl) (by rfl) ?_ | refine x_pickT (by rfl) (by rfl) (by rfl) ?_ | refine x_pickF (by rfl) (by rfl) (by rfl) ?_ | refine x_add (by rfl) (by rfl) (by rfl) (by omega) ?_ | refine x_sub (by rfl) (by rfl) (by rfl) (by omega) ?_ | refine x_not (by rfl) (by rfl) ?_)
    refine w_call (by rfl) (by rfl) (by rfl) (PEv.sorted elt_ord hp5 (hr.le (by omega)) (hr8.le (by omega)) (by omega)) ?_
    rintro v6 w6 ⟨own6, hfr6, u6⟩
    repeat (first | refine x_move (by rfl) ?_ | refine x_as (by rfl) (by rfl) ?_ | refine x_skip (by rfl) ?_ | refine x_fld (by rfl) (by rfl) FldO.h ?_ | refine x_nilck (by rfl) (by rfl) ?_ | refine x_len (by rfl) (by rfl) ElOf.some ?_ | refine x_ext (by rfl) (by rfl) (by rfl) ?_ | refine x_pickT (by rfl) (by rfl) (by rfl) ?_ | refine x_pickF (by rfl) (by rfl) (by rfl) ?_ | refine x_add (by rfl) (by rfl) (by rfl) (by omega) ?_ | refine x_sub (by rfl) (by rfl) (by rfl) (by omega) ?_ | refine x_not (by rfl) (by rfl) ?_)
    refine x_nilw ?_
    rw [← hlen] at own2
    have rd2 := (own2.rd.at u5).at u6
    (repeat (first | refine swp_seq ?_ | refine swp_block ?_)); refine swp_region (by kernel_rfl) ?_
    repeat (first | refine x_move (by rfl) ?_ | refine x_as (by rfl) (by rfl) ?_ | refine x_skip (by rfl) ?_ | refine x_fld (by rfl) (by rfl) FldO.h ?_ | refine x_nilck (by rfl) (by rfl) ?_ | refine x_len (by rfl) (by rfl) ElOf.some ?_ | refine x_ext (by rfl) (by rfl) (by rfl) ?_ | refine x_pickT (by rfl) (by rfl) (by rfl) ?_ | refine x_pickF (by rfl) (by rfl) (by rfl) ?_ | refine x_add (by rfl) (by rfl) (by rfl) (by omega) ?_ | refine x_sub (by rfl) (by rfl) (by rfl) (by omega) ?_ | refine x_not (by rfl) (by rfl) ?_)
    rw [hlen] at rd2
    refine w_call (by rfl) (by rfl) (by rfl) (LEv.same own6.rd (by rw [hlen]; exact rd2) (by omega)) ?_
    rintro _ w7 ⟨rfl, u7⟩
    repeat (first | refine x_move (by rfl) ?_ | refine x_as (by rfl) (by rfl) ?_ | refine x_skip (by rfl) ?_ | refine x_fld (by rfl) (by rfl) FldO.h ?_ | refine x_nilck (by rfl) (by rfl) ?_ | refine x_len (by rfl) (by rfl) ElOf.some ?_ | refine x_ext (by rfl) (by rfl) (by rfl) ?_ | refine x_pickT (by rfl) (by rfl) (by rfl) ?_ | refine x_pickF (by rfl) (by rfl) (by rfl) ?_ | refine x_add (by rfl) (by rfl) (by rfl) (by omega) ?_ | refine x_sub (by rfl) (by rfl) (by rfl) (by omega) ?_ | refine x_not (by rfl) (by rfl) ?_)
    refine w_call (by rfl) (by rfl) (by rfl) (PEv.len ((hp5.at u6).at u7)) ?_
    rintro _ _ ⟨rfl, rfl⟩
    repeat (first | refine x_move (by rfl) ?_ | refine x_as (by rfl) (by rfl) ?_ | refine x_skip (by rfl) ?_ | refine x_fld (by rfl) (by rfl) FldO.h ?_ | refine x_nilck (by rfl) (by rfl) ?_ | refine x_len (by rfl) (by rfl) ElOf.some ?_ | refine x_ext (by rfl) (by rfl) (by rfl) ?_ | refine x_pickT (by rfl) (by rfl) (by rfl) ?_ | refine x_pickF (by rfl) (by rfl) (by rfl) ?_ | refine x_add (by rfl) (by rfl) (by rfl) (by omega) ?_ | refine x_sub (by rfl) (by rfl) (by rfl) (by omega) ?_ | refine x_not (by rfl) (by rfl) ?_)
    refine x_eqlT (by rfl) (by rfl) (by rfl) (by rw [hlen]) ?_
    repeat (first | refine x_move (by rfl) ?_ | refine x_as (by rfl) (by rfl) ?_ | refine x_skip (by rfl) ?_ | refine x_fld (by rfl) (by rfl) FldO.h ?_ | refine x_nilck (by rfl) (by rfl) ?_ | refine x_len (by rfl) (by rfl) ElOf.some ?_ | refine x_ext (by rfl) (by rfl) (by rfl) ?_ | refine x_pickT (by rfl) (by rfl) (by rfl) ?_ | refine x_pickF (by rfl) (by rfl) (by rfl) ?_ | refine x_add (by rfl) (by rfl) (by rfl) (by omega) ?_ | refine x_sub (by rfl) (by rfl) (by rfl) (by omega) ?_ | refine x_not (by rfl) (by rfl) ?_)
    refine x_nilw ?_
    refine swp_ret ?_; (repeat (first | with_reducible refine r_then ?_ | with_reducible refine r_block ?_ | with_reducible refine r_jump ?_))
    exact post1 rfl rfl ⟨_, rfl, rfl, (((u1.trans u2).trans u5).trans u6).trans u7⟩
end Go.Proofs.Ytfcbiclmejeihaa
