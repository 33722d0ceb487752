/- GateArrival's shuffling: the same events in another order. Conditions: at most 4096 of them. -/
import Derived.Test.YtnhecopgecoloaaHb
namespace Go.Proofs.Ytnhecopgecoloaa
open Hp Sx

theorem tmod_two {k : Int} {n : Nat} (hn : 0 < n) : ∃ q : Nat, q < n ∧ ((k.tmod n + n).tmod n) = (q : Int) := by
  have h1 := Int.lt_tmod_of_pos k (b := (n : Int)) (by omega)
  have h2 := Int.tmod_lt_of_pos k (b := (n : Int)) (by omega)
  obtain ⟨m, hm⟩ : ∃ m : Nat, k.tmod n + n = (m : Int) := ⟨(k.tmod n + n).toNat, by omega⟩
  exact ⟨m % n, Nat.mod_lt _ hn, by rw [hm, tmod_nat]⟩

/-- the places that are not marked -/
def unseen (B : List Bool) : List Nat := (List.range B.length).filter fun i => decide (B[i]? = some false)
def evAt (L : List Ev) (i : Nat) : Ev := (L[i]?).getD Ev.zero
theorem evAt_range (L : List Ev) : (List.range L.length).map (evAt L) = L := by
  apply List.ext_getElem?
  intro i
  rw [List.getElem?_map]
  by_cases h : i < L.length
  · rw [List.getElem?_range h, List.getElem?_eq_getElem h]
    simp [evAt, List.getElem?_eq_getElem h]
  · rw [List.getElem?_eq_none (by simp; omega), List.getElem?_eq_none (by omega)]
    rfl
theorem unseen_start (n : Nat) : unseen (List.replicate n false) = List.range n := by
  unfold unseen
  rw [List.length_replicate]
  exact List.filter_eq_self.2 fun i hi => by
    have := List.mem_range.1 hi
    exact decide_eq_true (by rw [List.getElem?_replicate, if_pos this])
theorem unseen_set {B : List Bool} {q : Nat} (h : B[q]? = some false) : (unseen B).Perm (q :: unseen (B.set q true)) := by
  unfold unseen
  rw [List.length_set]
  exact unseen_mark List.nodup_range (List.mem_range.2 (List.getElem?_eq_some_iff.1 h).1) h
/-- how far it is round to u -/
def far (n u q : Nat) : Nat := if q ≤ u then u - q else u + n - q

set_option maxHeartbeats 4000000 in
set_option maxRecDepth 100000 in
theorem shuffled {w : World} {sv : Value} {L : List Ev} (k d : Int) (h : Rd w 11 sv L.length (fl Ev.cells L)) (hl : L.length ≤ 4096) : Gets Try.prog 16 [sv, .int .i64 k, .int .i64 d] w fun v w' => ∃ T : List Ev, T.Perm L ∧ PEv.Fresh w w' v T := by
  obtain ⟨a0, c0, rfl⟩ := h.slice
  refine ⟨GoFn.h, calls_of_swp 64 Try.func16 Try.ntmps16 rfl (Nat.le_of_ble_eq_true rfl) ?_⟩
  (repeat (first | refine swp_seq ?_ | refine swp_block ?_)); refine swp_region (by kernel_rfl) ?_
  repeat (first | refine x_move (by rfl) ?_ | refine x_as (by rfl) (by rfl) ?_ | refine x_skip (by rfl) ?_ | refine x_fld (by rfl) (by rfl) FldO.h ?_ | refine x_nilck (by rfl) (by rfl) ?_ | refine x_len (by rfl) (by rfl) ElOf.some ?_ | refine x_ext (by rfl) (by rfl) (by rfl) ?_ | refine x_pickT (by rfl) (by rfl) (by rfl) ?_ | refine x_pickF (by rfl) (by rfl) (by rfl) ?_ | refine x_add (by rfl) (by rfl) (by rfl) (by omega) ?_ | refine x_sub (by rfl) (by rfl) (by rfl) (by omega) ?_ | refine x_not (by rfl) (by rfl) ?_)
  refine x_nilw ?_
  (repeat (first | refine swp_seq ?_ | refine swp_block ?_)); refine swp_region (by kernel_rfl) ?_
  repeat (first | refine x_move (by rfl) ?_ | refine x_as (by rfl) (by rfl) ?_ | refine x_skip (by rfl) ?_ | refine x_fld (by rfl) (by rfl) FldO.h ?_ | refine x_nilck (by rfl) (by rfl) ?_ | refine x_len (by rfl) (by rfl) ElOf.some ?_ | refine x_ext (by rfl) (by rfl) (by rfl) ?_ | refine x_pickT (by rfl) (by rfl) (by rfl) ?_ | refine x_pickF (by rfl) (by rfl) (by rfl) ?_ | refine x_add (by rfl) (by rfl) (by rfl) (by omega) ?_ | refine x_sub (by rfl) (by rfl) (by rfl) (by omega) ?_ | refine x_not (by rfl) (by rfl) ?_)
  refine x_nilw ?_
  (repeat (first | refine swp_seq ?_ | refine swp_block ?_)); refine swp_region (by kernel_rfl) ?_
  repeat (first | refine x_move (by rfl) ?_ | refine x_as (by rfl) (by rfl) ?_ | refine x_skip (by rfl) ?_ | refine x_fld (by rfl) (by rfl) FldO.h ?_ | refine x_nilck (by rfl) (by rfl) ?_ | refine x_len (by rfl) (by rfl) ElOf.some ?_ | refine x_ext (by rfl) (by rfl) (by rfl) ?_ | refine x_pickT (by rfl) (by rfl) (by rfl) ?_ | refine x_pickF (by rfl) (by rfl) (by rfl) ?_ | refine x_add (by rfl) (by rfl) (by rfl) (by omega) ?_ | refine x_sub (by rfl) (by rfl) (by rfl) (by omega) ?_ | refine x_not (by rfl) (by rfl) ?_)
  refine x_nilw ?_
  (repeat (first | refine swp_seq ?_ | refine swp_block ?_)); refine swp_region (by kernel_rfl) ?_
  repeat (first | refine x_move (by rfl) ?_ | refine x_as (by rfl) (by rfl) ?_ | refine x_skip (by rfl) ?_ | refine x_fld (by rfl) (by rfl) FldO.h ?_ | refine x_nilck (by rfl) (by rfl) ?_ | refine x_len (by rfl) (by rfl) ElOf.some ?_ | refine x_ext (by rfl) (by rfl) (by rfl) ?_ | refine x_pickT (by rfl) (by rfl) (by rfl) ?_ | refine x_pickF (by rfl) (by rfl) (by rfl) ?_ | refine x_add (by rfl) (by rfl) (by rfl) (by omega) ?_ | refine x_sub (by rfl) (by rfl) (by rfl) (by omega) ?_ | refine x_not (by rfl) (by rfl) ?_)
  refine w_make L.length L.length (by rfl) (by rfl) (by rfl) (by rfl) SlC.h ZeroT.h (by rfl) rfl (by omega) ⟨by omega, by omega⟩ ?_
  intro bs w1 e1 u1 h1
  repeat (first | refine x_move (by rfl) ?_ | refine x_as (by rfl) (by rfl) ?_ | refine x_skip (by rfl) ?_ | refine x_fld (by rfl) (by rfl) FldO.h ?_ | refine x_nilck (by rfl) (by rfl) ?_ | refine x_len (by rfl) (by rfl) ElOf.some ?_ | refine x_ext (by rfl) (by rfl) (by rfl) ?_ | refine x_pickT (by rfl) (by rfl) (by rfl) ?_ | refine x_pickF (by rfl) (by rfl) (by rfl) ?_ | refine x_add (by rfl) (by rfl) (by rfl) (by omega) ?_ | refine x_sub (by rfl) (by rfl) (by rfl) (by omega) ?_ | refine x_not (by rfl) (by rfl) ?_)
  refine x_nilw ?_
  replace h1 : Blk w1 bs 4 (fl encB (List.replicate L.length false) ++ []) := by
    rw [fl_replicate, List.append_nil]
    rw [toList_madeCells_one, Nat.mul_one] at h1
    exact h1
  (repeat (first | refine swp_seq ?_ | refine swp_block ?_)); refine swp_region (by kernel_rfl) ?_
  repeat (first | refine x_move (by rfl) ?_ | refine x_as (by rfl) (by rfl) ?_ | refine x_skip (by rfl) ?_ | refine x_fld (by rfl) (by rfl) FldO.h ?_ | refine x_nilck (by rfl) (by rfl) ?_ | refine x_len (by rfl) (by rfl) ElOf.some ?_ | refine x_ext (by rfl) (by rfl) (by rfl) ?_ | refine x_pickT (by rfl) (by rfl) (by rfl) ?_ | refine x_pickF (by rfl) (by rfl) (by rfl) ?_ | refine x_add (by rfl) (by rfl) (by rfl) (by omega) ?_ | refine x_sub (by rfl) (by rfl) (by rfl) (by omega) ?_ | refine x_not (by rfl) (by rfl) ?_)
  refine x_nilw ?_
  refine swp_fit [(0, .slice a0 L.length c0), (1, .int .i64 k), (2, .int .i64 d), (7, .slice none 0 0), (8, .int .i64 (L.length : Nat)), (9, .slice (some ⟨bs, 0, none⟩) L.length L.length), (10, .int .i64 0)] ⟨rfl, rfl, rfl, rfl, rfl, rfl, rfl, trivial⟩ fun ρ => ?_
  refine swp_seq ?_
  refine PEv.swp_cutQ (fun σ w' => ∃ q : Nat, At σ [(0, .slice a0 L.length c0), (2, .int .i64 d), (7, .slice none 0 0), (8, .int .i64 (L.length : Nat)), (9, .slice (some ⟨bs, 0, none⟩) L.length L.length), (10, .int .i64 (q : Nat))] ∧ (0 < L.length → q < L.length) ∧ w1 = w') ?_ ?_
  · (repeat (first | refine swp_seq ?_ | refine swp_block ?_)); refine swp_region (by kernel_rfl) ?_
    repeat (first | refine x_move (by rfl) ?_ | refine x_as (by rfl) (by rfl) ?_ | refine x_skip (by rfl) ?_ | refine x_fld (by rfl) (by rfl) FldO.h ?_ | refine x_nilck (by rfl) (by rfl) ?_ | refine x_len (by rfl) (by rfl) ElOf.some ?_ | refine x_ext (by rfl) (by rfl) (by rfl) ?_ | refine x_pickT (by rfl) (by rfl) (by rfl) ?_ | refine x_pickF (by rfl) (by rfl) (by rfl) ?_ | refine x_add (by rfl) (by rfl) (by rfl) (by omega) ?_ | refine x_sub (by rfl) (by rfl) (by rfl) (by omega) ?_ | refine x_not (by rfl) (by rfl) ?_)
    by_cases hn : 0 < L.length
    · refine x_gtrT (by rfl) (by rfl) (by rfl) (by omega) ?_
      refine x_nilw ?_
      (repeat (first | refine swp_seq ?_ | refine swp_block ?_))
      refine swp_true (by rfl) ?_
      obtain ⟨q, hq, he⟩ := tmod_two (k := k) hn
      have h2 := Int.lt_tmod_of_pos k (b := (L.length : Int)) (by omega)
      have h3 := Int.tmod_lt_of_pos k (b := (L.length : Int)) (by omega)
      (repeat (first | refine swp_seq ?_ | refine swp_block ?_)); refine swp_region (by kernel_rfl) ?_
      repeat (first | refine x_move (by rfl) ?_ | refine x_as (by rfl) (by rfl) ?_ | refine x_skip (by rfl) ?_ | refine x_fld (by rfl) (by rfl) FldO.h ?_ | refine x_nilck (by rfl) (by rfl) ?_ | refine x_len (by rfl) (by rfl) ElOf.some ?_ | refine x_ext (by rfl) (by rfl) (by rfl) ?_ | refine x_pickT (by rfl) (by rfl) (by rfl) ?_ | refine x_pickF (by rfl) (by rfl) (by rfl) ?_ | refine x_add (by rfl) (by rfl) (by rfl) (by omega) ?_ | refine x_sub (by rfl) (by rfl) (by rfl) (by omega) ?_ | refine x_not (by rfl) (by rfl) ?_)
      refine x_rem (by rfl) (by rfl) (by rfl) (by omega) ?_
      repeat (first | refine x_move (by rfl) ?_ | refine x_as (by rfl) (by rfl) ?_ | refine x_skip (by rfl) ?_ | refine x_fld (by rfl) (by rfl) FldO.h ?_ | refine x_nilck (by rfl) (by rfl) ?_ | refine x_len (by rfl) (by rfl) ElOf.some ?_ | refine x_ext (by rfl) (by rfl) (by rfl) ?_ | refine x_pickT (by rfl) (by rfl) (by rfl) ?_ | refine x_pickF (by rfl) (by rfl) (by rfl) ?_ | refine x_add (by rfl) (by rfl) (by rfl) (by omega) ?_ | refine x_sub (by rfl) (by rfl) (by rfl) (by omega) ?_ | refine x_not (by rfl) (by rfl) ?_)
      refine x_rem (by rfl) (by rfl) (by rfl) (by omega) ?_
      rw [he]
      repeat (first | refine x_move (by rfl) ?_ | refine x_as (by rfl) (by rfl) ?_ | refine x_skip (by rfl) ?_ | refine x_fld (by rfl) (by rfl) FldO.h ?_ | refine x_nilck (by rfl) (by rfl) ?_ | refine x_len (by rfl) (by rfl) ElOf.some ?_ | refine x_ext (by rfl) (by rfl) (by rfl) ?_ | refine x_pickT (by rfl) (by rfl) (by rfl) ?_ | refine x_pickF (by rfl) (by rfl) (by rfl) ?_ | refine x_add (by rfl) (by rfl) (by rfl) (by omega) ?_ | refine x_sub (by rfl) (by rfl) (by rfl) (by omega) ?_ | refine x_not (by rfl) (by rfl) ?_)
      refine x_nilw ?_
      exact ⟨rfl, q, at_ ⟨rfl, rfl, rfl, rfl, rfl, rfl, trivial⟩, fun _ => hq, rfl⟩
    · refine x_gtrF (by rfl) (by rfl) (by rfl) (by omega) ?_
      refine x_nilw ?_
      (repeat (first | refine swp_seq ?_ | refine swp_block ?_))
      refine swp_false (by rfl) (swp_skip ?_)
      exact ⟨rfl, 0, at_ ⟨rfl, rfl, rfl, rfl, rfl, rfl, trivial⟩, fun h => absurd h hn, rfl⟩
  rintro σ w' ⟨q0, ⟨ρ, rfl⟩, hq0, rfl⟩
  refine n_then ?_
  (repeat (first | refine swp_seq ?_ | refine swp_block ?_)); refine swp_region (by kernel_rfl) ?_
  repeat (first | refine x_move (by rfl) ?_ | refine x_as (by rfl) (by rfl) ?_ | refine x_skip (by rfl) ?_ | refine x_fld (by rfl) (by rfl) FldO.h ?_ | refine x_nilck (by rfl) (by rfl) ?_ | refine x_len (by rfl) (by rfl) ElOf.some ?_ | refine x_ext (by rfl) (by rfl) (by rfl) ?_ | refine x_pickT (by rfl) (by rfl) (by rfl) ?_ | refine x_pickF (by rfl) (by rfl) (by rfl) ?_ | refine x_add (by rfl) (by rfl) (by rfl) (by omega) ?_ | refine x_sub (by rfl) (by rfl) (by rfl) (by omega) ?_ | refine x_not (by rfl) (by rfl) ?_)
  refine x_nilw ?_
  refine swp_fit [(0, .slice a0 L.length c0), (2, .int .i64 d), (7, .slice none 0 0), (8, .int .i64 (L.length : Nat)), (9, .slice (some ⟨bs, 0, none⟩) L.length L.length), (10, .int .i64 (q0 : Nat)), (11, .int .i64 1)] ⟨rfl, rfl, rfl, rfl, rfl, rfl, rfl, trivial⟩ fun ρ => ?_
  refine swp_seq ?_
  refine PEv.swp_cutQ (fun σ w' => ∃ st : Nat, At σ [(0, .slice a0 L.length c0), (7, .slice none 0 0), (8, .int .i64 (L.length : Nat)), (9, .slice (some ⟨bs, 0, none⟩) L.length L.length), (10, .int .i64 (q0 : Nat)), (11, .int .i64 (st : Nat))] ∧ st ≤ 4096 ∧ w1 = w') ?_ ?_
  · (repeat (first | refine swp_seq ?_ | refine swp_block ?_)); refine swp_region (by kernel_rfl) ?_
    repeat (first | refine x_move (by rfl) ?_ | refine x_as (by rfl) (by rfl) ?_ | refine x_skip (by rfl) ?_ | refine x_fld (by rfl) (by rfl) FldO.h ?_ | refine x_nilck (by rfl) (by rfl) ?_ | refine x_len (by rfl) (by rfl) ElOf.some ?_ | refine x_ext (by rfl) (by rfl) (by rfl) ?_ | refine x_pickT (by rfl) (by rfl) (by rfl) ?_ | refine x_pickF (by rfl) (by rfl) (by rfl) ?_ | refine x_add (by rfl) (by rfl) (by rfl) (by omega) ?_ | refine x_sub (by rfl) (by rfl) (by rfl) (by omega) ?_ | refine x_not (by rfl) (by rfl) ?_)
    by_cases hn : 0 < L.length
    · refine x_gtrT (by rfl) (by rfl) (by rfl) (by omega) ?_
      refine x_nilw ?_
      (repeat (first | refine swp_seq ?_ | refine swp_block ?_))
      refine swp_true (by rfl) ?_
      obtain ⟨q, hq, he⟩ := tmod_two (k := d) hn
      have h2 := Int.lt_tmod_of_pos d (b := (L.length : Int)) (by omega)
      have h3 := Int.tmod_lt_of_pos d (b := (L.length : Int)) (by omega)
      (repeat (first | refine swp_seq ?_ | refine swp_block ?_)); refine swp_region (by kernel_rfl) ?_
      repeat (first | refine x_move (by rfl) ?_ | refine x_as (by rfl) (by rfl) ?_ | refine x_skip (by rfl) ?_ | refine x_fld (by rfl) (by rfl) FldO.h ?_ | refine x_nilck (by rfl) (by rfl) ?_ | refine x_len (by rfl) (by rfl) ElOf.some ?_ | refine x_ext (by rfl) (by rfl) (by rfl) ?_ | refine x_pickT (by rfl) (by rfl) (by rfl) ?_ | refine x_pickF (by rfl) (by rfl) (by rfl) ?_ | refine x_add (by rfl) (by rfl) (by rfl) (by omega) ?_ | refine x_sub (by rfl) (by rfl) (by rfl) (by omega) ?_ | refine x_not (by rfl) (by rfl) ?_)
      refine x_rem (by rfl) (by rfl) (by rfl) (by omega) ?_
      repeat (first | refine x_move (by rfl) ?_ | refine x_as (by rfl) (by rfl) ?_ | refine x_skip (by rfl) ?_ | refine x_fld (by rfl) (by rfl) FldO.h ?_ | refine x_nilck (by rfl) (by rfl) ?_ | refine x_len (by rfl) (by rfl) ElOf.some ?_ | refine x_ext (by rfl) (by rfl) (by rfl) ?_ | refine x_pickT (by rfl) (by rfl) (by rfl) ?_ | refine x_pickF (by rfl) (by rfl) (by rfl) ?_ | refine x_add (by rfl) (by rfl) (by rfl) (by omega) ?_ | refine x_sub (by rfl) (by rfl) (by rfl) (by omega) ?_ | refine x_not (by rfl) (by rfl) ?_)
      refine x_rem (by rfl) (by rfl) (by rfl) (by omega) ?_
      rw [he]
      repeat (first | refine x_move (by rfl) ?_ | refine x_as (by rfl) (by rfl) ?_ | refine x_skip (by rfl) ?_ | refine x_fld (by rfl) (by rfl) FldO.h ?_ | refine x_nilck (by rfl) (by rfl) ?_ | refine x_len (by rfl) (by rfl) ElOf.some ?_ | refine x_ext (by rfl) (by rfl) (by rfl) ?_ | refine x_pickT (by rfl) (by rfl) (by rfl) ?_ | refine x_pickF (by rfl) (by rfl) (by rfl) ?_ | refine x_add (by rfl) (by rfl) (by rfl) (by omega) ?_ | refine x_sub (by rfl) (by rfl) (by rfl) (by omega) ?_ | refine x_not (by rfl) (by rfl) ?_)
      refine x_nilw ?_
      exact ⟨rfl, q, at_ ⟨rfl, rfl, rfl, rfl, rfl, rfl, trivial⟩, by omega, rfl⟩
    · refine x_gtrF (by rfl) (by rfl) (by rfl) (by omega) ?_
      refine x_nilw ?_
      (repeat (first | refine swp_seq ?_ | refine swp_block ?_))
      refine swp_false (by rfl) (swp_skip ?_)
      exact ⟨rfl, 1, at_ ⟨rfl, rfl, rfl, rfl, rfl, rfl, trivial⟩, by omega, rfl⟩
  rintro σ w' ⟨st, ⟨ρ, rfl⟩, hst, rfl⟩
  refine n_then ?_
  (repeat (first | refine swp_seq ?_ | refine swp_block ?_)); refine swp_region (by kernel_rfl) ?_
  repeat (first | refine x_move (by rfl) ?_ | refine x_as (by rfl) (by rfl) ?_ | refine x_skip (by rfl) ?_ | refine x_fld (by rfl) (by rfl) FldO.h ?_ | refine x_nilck (by rfl) (by rfl) ?_ | refine x_len (by rfl) (by rfl) ElOf.some ?_ | refine x_ext (by rfl) (by rfl) (by rfl) ?_ | refine x_pickT (by rfl) (by rfl) (by rfl) ?_ | refine x_pickF (by rfl) (by rfl) (by rfl) ?_ | refine x_add (by rfl) (by rfl) (by rfl) (by omega) ?_ | refine x_sub (by rfl) (by rfl) (by rfl) (by omega) ?_ | refine x_not (by rfl) (by rfl) ?_)
  refine x_nilw ?_
  (repeat (first | refine swp_seq ?_ | refine swp_block ?_))
  have s1 := u1.size
  have hbs1 := h1.lt
  refine swp_loop (fun (i : Nat) σ w2 => ∃ (q : Nat) (B : List Bool) (out : Value) (T : List Ev), At σ [(0, .slice a0 L.length c0), (7, out), (8, .int .i64 (L.length : Nat)), (9, .slice (some ⟨bs, 0, none⟩) L.length L.length), (10, .int .i64 (q : Nat)), (11, .int .i64 (st : Nat)), (12, .int .i64 (i : Nat))] ∧ i ≤ L.length ∧ (0 < L.length → q < L.length) ∧ B.length = L.length ∧ T.length = i ∧ (T ++ (unseen B).map (evAt L)).Perm L ∧ Blk w2 bs 4 (fl encB B ++ []) ∧ Own w2 30 11 out i (fl Ev.cells T) ∧ (∀ b, isIn out b → w.heap.size ≤ b ∧ b ≠ bs) ∧ Ext w w2) (fun i => L.length - i) 0 ⟨q0, List.replicate L.length false, .slice none 0 0, [], at_ ⟨rfl, rfl, rfl, rfl, rfl, rfl, rfl, trivial⟩, by omega, hq0, by simp, rfl, by rw [unseen_start, evAt_range]; exact List.Perm.refl _, h1, Own.nil _ _ _, fun b hb => hb.elim, u1⟩ ?_
  rintro i σ w2 ⟨q, B, out, T, ⟨ρ, rfl⟩, hi, hq, hB, hT, hp, hb2, own2, hf2, u2⟩
  have g2 := h.at u2
  have s2 := u2.size
  (repeat (first | refine swp_seq ?_ | refine swp_block ?_)); refine swp_region (by kernel_rfl) ?_
  repeat (first | refine x_move (by rfl) ?_ | refine x_as (by rfl) (by rfl) ?_ | refine x_skip (by rfl) ?_ | refine x_fld (by rfl) (by rfl) FldO.h ?_ | refine w_load (by rfl) (by rfl) (load_one OneT.h (by assumption) (by rfl)) ?_ | refine x_nilck (by rfl) (by rfl) ?_ | refine x_len (by rfl) (by rfl) ElOf.some ?_ | refine x_iface (by rfl) (by rfl) NIf.h ?_ | refine x_ext (by rfl) (by rfl) (by rfl) ?_ | refine x_pickT (by rfl) (by rfl) (by rfl) ?_ | refine x_pickF (by rfl) (by rfl) (by rfl) ?_ | refine x_add (by rfl) (by rfl) (by rfl) (by omega) ?_ | refine x_sub (by rfl) (by rfl) (by rfl) (by omega) ?_ | refine x_lss (by rfl) (by rfl) (by rfl) ?_ | refine x_geq (by rfl) (by rfl) (by rfl) ?_ | refine x_leq (by rfl) (by rfl) (by rfl) ?_ | refine x_gtr (by rfl) (by rfl) (by rfl) ?_ | refine x_eql (by rfl) (by rfl) (by rfl) ?_ | refine x_neq (by rfl) (by rfl) (by rfl) ?_ | refine x_not (by rfl) (by rfl) ?_)
  refine x_nilw ?_
  (repeat (first | refine swp_seq ?_ | refine swp_block ?_))
  refine swp_if (by rfl) (fun h0 => swp_skip ?_) (fun h0 => ?_)
  · have hi' : i < L.length := by omega
    have hqn := hq (by omega)
    obtain ⟨b1, o1, d1, he1, -, -⟩ := h.pos (by omega)
    simp only [Value.slice.injEq] at he1
    obtain ⟨rfl, _, rfl⟩ := he1
    have hul : (unseen B).length = L.length - i := by
      have := hp.length_eq
      rw [List.length_append, List.length_map, hT] at this
      omega
    obtain ⟨u, hu⟩ : ∃ u, u ∈ unseen B := List.exists_mem_of_length_pos (by omega)
    obtain ⟨hur, huB⟩ := List.mem_filter.1 hu
    have hun : u < L.length := by rw [← hB]; exact List.mem_range.1 hur
    have huB' : B[u]? = some false := of_decide_eq_true huB
    (repeat (first | with_reducible refine n_then ?_ | with_reducible refine n_block ?_ | with_reducible refine n_jump ?_))
    refine swp_seq ?_
    refine swp_block ?_
    refine swp_seq ?_
    refine PEv.swp_cutQ (fun σ w' => ∃ q' : Nat, At σ [(0, .slice (some ⟨b1, o1, none⟩) L.length c0), (7, out), (8, .int .i64 (L.length : Nat)), (9, .slice (some ⟨bs, 0, none⟩) L.length L.length), (10, .int .i64 (q' : Nat)), (11, .int .i64 (st : Nat)), (12, .int .i64 (i : Nat))] ∧ q' < L.length ∧ B[q']? = some false ∧ w2 = w') ?_ ?_
    · (repeat (first | refine swp_seq ?_ | refine swp_block ?_))
      refine swp_loop (fun (q' : Nat) σ w' => At σ [(0, .slice (some ⟨b1, o1, none⟩) L.length c0), (7, out), (8, .int .i64 (L.length : Nat)), (9, .slice (some ⟨bs, 0, none⟩) L.length L.length), (10, .int .i64 (q' : Nat)), (11, .int .i64 (st : Nat)), (12, .int .i64 (i : Nat))] ∧ q' < L.length ∧ w2 = w') (fun q' => far L.length u q') q ⟨at_ ⟨rfl, rfl, rfl, rfl, rfl, rfl, rfl, trivial⟩, hqn, rfl⟩ ?_
      rintro q' σ w' ⟨⟨ρ, rfl⟩, hq', rfl⟩
      obtain ⟨sb, hsb⟩ := nthE (L := B) (i := q') (by omega)
      (repeat (first | refine swp_seq ?_ | refine swp_block ?_)); refine swp_region (by kernel_rfl) ?_
      repeat (first | refine x_move (by rfl) ?_ | refine x_as (by rfl) (by rfl) ?_ | refine x_skip (by rfl) ?_ | refine x_fld (by rfl) (by rfl) FldO.h ?_ | refine x_nilck (by rfl) (by rfl) ?_ | refine x_len (by rfl) (by rfl) ElOf.some ?_ | refine x_ext (by rfl) (by rfl) (by rfl) ?_ | refine x_pickT (by rfl) (by rfl) (by rfl) ?_ | refine x_pickF (by rfl) (by rfl) (by rfl) ?_ | refine x_add (by rfl) (by rfl) (by rfl) (by omega) ?_ | refine x_sub (by rfl) (by rfl) (by rfl) (by omega) ?_ | refine x_not (by rfl) (by rfl) ?_)
      refine x_idx q' (by rfl) (by rfl) (by rfl) ElSz.h rfl hq' ?_
      refine w_load (v := .bool sb) (by rfl) (by rfl) (load_one OneT.h hb2 (fl_cell (i := q') (j := 0) encB_len hsb rfl (by omega) [])) ?_
      refine x_nilw ?_
      (repeat (first | refine swp_seq ?_ | refine swp_block ?_))
      cases sb with
      | true =>
        refine swp_true (by rfl) (swp_skip ?_)
        (repeat (first | with_reducible refine n_then ?_ | with_reducible refine n_block ?_ | with_reducible refine n_jump ?_))
        (repeat (first | refine swp_seq ?_ | refine swp_block ?_)); refine swp_region (by kernel_rfl) ?_
        repeat (first | refine x_move (by rfl) ?_ | refine x_as (by rfl) (by rfl) ?_ | refine x_skip (by rfl) ?_ | refine x_fld (by rfl) (by rfl) FldO.h ?_ | refine x_nilck (by rfl) (by rfl) ?_ | refine x_len (by rfl) (by rfl) ElOf.some ?_ | refine x_ext (by rfl) (by rfl) (by rfl) ?_ | refine x_pickT (by rfl) (by rfl) (by rfl) ?_ | refine x_pickF (by rfl) (by rfl) (by rfl) ?_ | refine x_add (by rfl) (by rfl) (by rfl) (by omega) ?_ | refine x_sub (by rfl) (by rfl) (by rfl) (by omega) ?_ | refine x_not (by rfl) (by rfl) ?_)
        refine x_rem (by rfl) (by rfl) (by rfl) (by omega) ?_
        rw [show ((q' : Int) + 1).tmod (L.length : Int) = (((q' + 1) % L.length : Nat) : Int) from tmod_nat (q' + 1) L.length]
        repeat (first | refine x_move (by rfl) ?_ | refine x_as (by rfl) (by rfl) ?_ | refine x_skip (by rfl) ?_ | refine x_fld (by rfl) (by rfl) FldO.h ?_ | refine x_nilck (by rfl) (by rfl) ?_ | refine x_len (by rfl) (by rfl) ElOf.some ?_ | refine x_ext (by rfl) (by rfl) (by rfl) ?_ | refine x_pickT (by rfl) (by rfl) (by rfl) ?_ | refine x_pickF (by rfl) (by rfl) (by rfl) ?_ | refine x_add (by rfl) (by rfl) (by rfl) (by omega) ?_ | refine x_sub (by rfl) (by rfl) (by rfl) (by omega) ?_ | refine x_not (by rfl) (by rfl) ?_)
        refine x_nilw ?_
        (repeat (first | with_reducible refine n_then ?_ | with_reducible refine n_block ?_ | with_reducible refine n_jump ?_))
        have hm : (q' + 1) % L.length < L.length := Nat.mod_lt _ (by omega)
        have hne : q' ≠ u := fun e => by rw [e, huB'] at hsb; cases hsb
        refine ⟨(q' + 1) % L.length, ⟨at_ ⟨rfl, rfl, rfl, rfl, rfl, rfl, rfl, trivial⟩, hm, rfl⟩, ?_⟩
        unfold far
        by_cases he : q' + 1 = L.length
        · rw [he, Nat.mod_self]
          split <;> split <;> omega
        · rw [Nat.mod_eq_of_lt (by omega)]
          split <;> split <;> omega
      | false =>
        refine swp_false (by rfl) ?_
        refine swp_exit ?_; (repeat (first | with_reducible refine e_then ?_ | with_reducible refine e_jump ?_)); refine e_block ?_; (repeat (first | with_reducible refine n_then ?_ | with_reducible refine n_block ?_ | with_reducible refine n_jump ?_))
        exact ⟨rfl, q', at_ ⟨rfl, rfl, rfl, rfl, rfl, rfl, rfl, trivial⟩, hq', hsb, rfl⟩
    rintro σ w' ⟨q', ⟨ρ, rfl⟩, hq', hsb, rfl⟩
    refine n_then ?_
    obtain ⟨x, hx⟩ := nthE (L := L) hq'
    (repeat (first | refine swp_seq ?_ | refine swp_block ?_)); refine swp_region (by kernel_rfl) ?_
    repeat (first | refine x_move (by rfl) ?_ | refine x_as (by rfl) (by rfl) ?_ | refine x_skip (by rfl) ?_ | refine x_fld (by rfl) (by rfl) FldO.h ?_ | refine x_nilck (by rfl) (by rfl) ?_ | refine x_len (by rfl) (by rfl) ElOf.some ?_ | refine x_ext (by rfl) (by rfl) (by rfl) ?_ | refine x_pickT (by rfl) (by rfl) (by rfl) ?_ | refine x_pickF (by rfl) (by rfl) (by rfl) ?_ | refine x_add (by rfl) (by rfl) (by rfl) (by omega) ?_ | refine x_sub (by rfl) (by rfl) (by rfl) (by omega) ?_ | refine x_not (by rfl) (by rfl) ?_)
    refine x_idx q' (by rfl) (by rfl) (by rfl) ElSz.h rfl hq' ?_
    refine w_store (xs := [.bool true]) (by rfl) (by rfl) (by rfl) (by rfl) SzT.h (by rfl) (by rfl) hb2 (by rw [List.append_nil, fl_length encB_len]; omega) ?_
    intro w3 u3 h3 _
    refine x_nilw ?_
    rw [show [Value.bool true] = encB true from rfl, fl_set encB_len (i := q') (by omega) (by omega)] at h3
    have own3 := own2.get u3 fun b hb e => (hf2 b hb).2 e
    have u03 : Ext w w3 := u2.trans' u3 fun b hb e => by have e' : b = bs := e; omega
    have g3 := h.at u03
    (repeat (first | refine swp_seq ?_ | refine swp_block ?_)); refine swp_region (by kernel_rfl) ?_
    repeat (first | refine x_move (by rfl) ?_ | refine x_as (by rfl) (by rfl) ?_ | refine x_skip (by rfl) ?_ | refine x_fld (by rfl) (by rfl) FldO.h ?_ | refine x_nilck (by rfl) (by rfl) ?_ | refine x_len (by rfl) (by rfl) ElOf.some ?_ | refine x_ext (by rfl) (by rfl) (by rfl) ?_ | refine x_pickT (by rfl) (by rfl) (by rfl) ?_ | refine x_pickF (by rfl) (by rfl) (by rfl) ?_ | refine x_add (by rfl) (by rfl) (by rfl) (by omega) ?_ | refine x_sub (by rfl) (by rfl) (by rfl) (by omega) ?_ | refine x_not (by rfl) (by rfl) ?_)
    refine x_idx q' (by rfl) (by rfl) (by rfl) ElSz.h rfl hq' ?_
    refine w_load (by rfl) (by rfl) (rd_load ev_len AggT.h g3 hx rfl rfl) ?_
    refine w_bslice (e := 30) (cs := x.cells) (by rfl) (by rfl) (by rfl) (by kernel_rfl) ?_
    intro b6 w6 e6 u6 h6
    refine w_append (more := []) (news := x.cells) (by rfl) (by rfl) (by rfl) (by rfl) SlC.h (own3.at u6) (by rw [List.append_nil]; exact h6) (by rfl) (by rfl) (by omega) (room88 (by omega)) ?_
    intro out7 w7 own7 u7 hin7
    repeat (first | refine x_move (by rfl) ?_ | refine x_as (by rfl) (by rfl) ?_ | refine x_skip (by rfl) ?_ | refine x_fld (by rfl) (by rfl) FldO.h ?_ | refine x_nilck (by rfl) (by rfl) ?_ | refine x_len (by rfl) (by rfl) ElOf.some ?_ | refine x_ext (by rfl) (by rfl) (by rfl) ?_ | refine x_pickT (by rfl) (by rfl) (by rfl) ?_ | refine x_pickF (by rfl) (by rfl) (by rfl) ?_ | refine x_add (by rfl) (by rfl) (by rfl) (by omega) ?_ | refine x_sub (by rfl) (by rfl) (by rfl) (by omega) ?_ | refine x_not (by rfl) (by rfl) ?_)
    refine x_nilw ?_
    have s3 := u3.size
    have s6 := u6.size
    have hbsl : bs < w2.heap.size := hb2.lt
    (repeat (first | refine swp_seq ?_ | refine swp_block ?_)); refine swp_region (by kernel_rfl) ?_
    repeat (first | refine x_move (by rfl) ?_ | refine x_as (by rfl) (by rfl) ?_ | refine x_skip (by rfl) ?_ | refine x_fld (by rfl) (by rfl) FldO.h ?_ | refine x_nilck (by rfl) (by rfl) ?_ | refine x_len (by rfl) (by rfl) ElOf.some ?_ | refine x_ext (by rfl) (by rfl) (by rfl) ?_ | refine x_pickT (by rfl) (by rfl) (by rfl) ?_ | refine x_pickF (by rfl) (by rfl) (by rfl) ?_ | refine x_add (by rfl) (by rfl) (by rfl) (by omega) ?_ | refine x_sub (by rfl) (by rfl) (by rfl) (by omega) ?_ | refine x_not (by rfl) (by rfl) ?_)
    refine x_rem (by rfl) (by rfl) (by rfl) (by omega) ?_
    rw [show ((q' : Int) + (st : Int)).tmod (L.length : Int) = (((q' + st) % L.length : Nat) : Int) from tmod_nat (q' + st) L.length]
    repeat (first | refine x_move (by rfl) ?_ | refine x_as (by rfl) (by rfl) ?_ | refine x_skip (by rfl) ?_ | refine x_fld (by rfl) (by rfl) FldO.h ?_ | refine x_nilck (by rfl) (by rfl) ?_ | refine x_len (by rfl) (by rfl) ElOf.some ?_ | refine x_ext (by rfl) (by rfl) (by rfl) ?_ | refine x_pickT (by rfl) (by rfl) (by rfl) ?_ | refine x_pickF (by rfl) (by rfl) (by rfl) ?_ | refine x_add (by rfl) (by rfl) (by rfl) (by omega) ?_ | refine x_sub (by rfl) (by rfl) (by rfl) (by omega) ?_ | refine x_not (by rfl) (by rfl) ?_)
    refine x_nilw ?_
    (repeat (first | with_reducible refine n_then ?_ | with_reducible refine n_block ?_ | with_reducible refine n_jump ?_))
    (repeat (first | refine swp_seq ?_ | refine swp_block ?_)); refine swp_region (by kernel_rfl) ?_
    repeat (first | refine x_move (by rfl) ?_ | refine x_as (by rfl) (by rfl) ?_ | refine x_skip (by rfl) ?_ | refine x_fld (by rfl) (by rfl) FldO.h ?_ | refine x_nilck (by rfl) (by rfl) ?_ | refine x_len (by rfl) (by rfl) ElOf.some ?_ | refine x_ext (by rfl) (by rfl) (by rfl) ?_ | refine x_pickT (by rfl) (by rfl) (by rfl) ?_ | refine x_pickF (by rfl) (by rfl) (by rfl) ?_ | refine x_add (by rfl) (by rfl) (by rfl) (by omega) ?_ | refine x_sub (by rfl) (by rfl) (by rfl) (by omega) ?_ | refine x_not (by rfl) (by rfl) ?_)
    refine x_nilw ?_
    have hpu := (unseen_set hsb).map (evAt L)
    have hxe : evAt L q' = x := by unfold evAt; rw [hx]; rfl
    refine ⟨i + 1, ⟨(q' + st) % L.length, B.set q' true, out7, T ++ [x], at_ ⟨rfl, rfl, rfl, rfl, rfl, rfl, rfl, trivial⟩, by omega, fun _ => Nat.mod_lt _ (by omega), by rw [List.length_set]; exact hB, by rw [List.length_append, hT]; rfl, ?_, (h3.at u6).get u7 fun hb => (hf2 bs hb).2 rfl, by rw [fl_append, fl_one]; exact own7, fun b hb => (hin7 b hb).elim (hf2 b) fun h => ⟨by omega, by omega⟩, (u03.trans u6).trans' u7 fun b hb hf => by have := (hf2 b hf).1; omega⟩, by omega⟩
    refine List.Perm.trans ?_ hp
    rw [List.append_assoc]
    refine List.Perm.append_left T ?_
    refine List.Perm.trans ?_ hpu.symm
    rw [List.map_cons, hxe]
    exact List.Perm.refl _
  · have hin : i = L.length := by omega
    subst hin
    have hul : ((unseen B).map (evAt L)) = [] := List.eq_nil_of_length_eq_zero (by
      have := hp.length_eq
      rw [List.length_append, hT] at this
      omega)
    rw [hul, List.append_nil] at hp
    refine swp_exit ?_; (repeat (first | with_reducible refine e_then ?_ | with_reducible refine e_jump ?_)); refine e_block ?_; (repeat (first | with_reducible refine n_then ?_ | with_reducible refine n_block ?_ | with_reducible refine n_jump ?_))
    (repeat (first | refine swp_seq ?_ | refine swp_block ?_)); refine swp_region (by kernel_rfl) ?_
    repeat (first | refine x_move (by rfl) ?_ | refine x_as (by rfl) (by rfl) ?_ | refine x_skip (by rfl) ?_ | refine x_fld (by rfl) (by rfl) FldO.h ?_ | refine x_nilck (by rfl) (by rfl) ?_ | refine x_len (by rfl) (by rfl) ElOf.some ?_ | refine x_ext (by rfl) (by rfl) (by rfl) ?_ | refine x_pickT (by rfl) (by rfl) (by rfl) ?_ | refine x_pickF (by rfl) (by rfl) (by rfl) ?_ | refine x_add (by rfl) (by rfl) (by rfl) (by omega) ?_ | refine x_sub (by rfl) (by rfl) (by rfl) (by omega) ?_ | refine x_not (by rfl) (by rfl) ?_)
    refine x_nilw ?_
    refine swp_ret ?_; (repeat (first | with_reducible refine r_then ?_ | with_reducible refine r_block ?_ | with_reducible refine r_jump ?_))
    exact post1 rfl rfl ⟨_, rfl, T, hp, by rw [hT]; exact own2, fun b hb => (hf2 b hb).1, u2⟩
end Go.Proofs.Ytnhecopgecoloaa
