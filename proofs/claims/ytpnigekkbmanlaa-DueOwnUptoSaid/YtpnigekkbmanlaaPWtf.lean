/- A pile of Wt: Sorted. Conditions: fewer than 2^60 things; room for what grows. -/
import Derived.Test.YtpnigekkbmanlaaPWte
namespace Go.Proofs.Ytpnigekkbmanlaa.PWt
open Sx Hp

/-- A cut after one piece of code that goes on. -/
theorem swp_cutQ {P : Program} {n : Nat} {x : Code} {Q : Exit → Fr → World → Prop} {σ : Fr} {w : World} (Φ : Fr → World → Prop) (h1 : swp P n x (fun e σ w => e = .normal ∧ Φ σ w) σ w) (h2 : ∀ σ w, Φ σ w → Q .normal σ w) : swp P n x Q σ w :=
  swp_mono h1 fun e σ w h => by obtain ⟨rfl, h⟩ := h; exact h2 _ _ h

/-- the new pile, its block and its slice's, made either way round -/
theorem sorted_end {w3 : World} {b2 b3 : Nat} {L : List E} {S : List Wt} {N : Nat} (hH : Holds wlt L S N) (hb2 : Blk w3 b2 113 [.slice (some ⟨b3, 0, none⟩) L.length L.length, .int .u64 (N : Nat)]) (hb3 : Blk w3 b3 116 (fl enE L)) (hne : b3 ≠ b2) (hr : Room L.length 112) :
    Pile w3 b2 (.slice (some ⟨b3, 0, none⟩) L.length L.length) S N := by
  refine ⟨L, ⟨hb2, Own.of (rest := []) ?_ (by rw [List.append_nil]; exact hb3) (by omega) (by have := hr.1; simp only [maxLen]; omega) ?_, fun h => hne h.symm⟩, hH⟩
  · rw [fl_length enE_len]
  · rw [List.length_append, fl_length enE_len]; simp

/-- after the new pile is laid -/
def SI (w : World) (bp L N : Nat) (σ : Fr) (w3 : World) : Prop :=
  ∃ b2 b3 cs, At σ [(0, .pointer (some ⟨bp, 0, none⟩)), (3, .pointer (some ⟨b2, 0, none⟩))] ∧ Ext w w3 ∧ w.heap.size ≤ b2 ∧ w.heap.size ≤ b3 ∧ b3 ≠ b2 ∧ Blk w3 b2 113 [.slice (some ⟨b3, 0, none⟩) L L, .int .u64 (N : Nat)] ∧ Blk w3 b3 116 cs ∧ cs.length = L * 6

set_option maxHeartbeats 1000000 in
set_option maxRecDepth 100000 in
theorem sorted (ho : Ord wlt) {w : World} {bp : Nat} {sv : Value} {S : List Wt} {N : Nat} (hp : Pile w bp sv S N) (hrE : Room S.length 112) (hrT : Room S.length 104) (hl : S.length ≤ 2305843009213693951) (hV : ∀ y ∈ S, y.Rdy w) :
    Gets Try.prog 50 [.pointer (some ⟨bp, 0, none⟩)] w fun v w' => Fresh w w' v S := by
  obtain ⟨L, hP, hH⟩ := hp
  have hlen := hH.length
  rw [hlen] at hrE hrT hl
  obtain ⟨a, cap, rfl⟩ := hP.own.slice
  have hb := hP.blk
  refine ⟨GoFn.h, calls_of_swp 23 Try.func50 Try.ntmps50 rfl (Nat.le_of_ble_eq_true rfl) ?_⟩
  (repeat (first | refine swp_seq ?_ | refine swp_block ?_)); refine swp_region (by kernel_rfl) ?_
  repeat (first | refine x_move (by rfl) ?_ | refine x_as (by rfl) (by rfl) ?_ | refine x_skip (by rfl) ?_ | refine x_fld (by rfl) (by rfl) FldO.h ?_ | refine w_load (by rfl) (by rfl) (load_one OneT.h (by assumption) (by rfl)) ?_ | refine x_nilck (by rfl) (by rfl) ?_ | refine x_len (by rfl) (by rfl) ElOf.some ?_ | refine x_iface (by rfl) (by rfl) NIf.h ?_ | refine x_ext (by rfl) (by rfl) (by rfl) ?_ | refine x_pickT (by rfl) (by rfl) (by rfl) ?_ | refine x_pickF (by rfl) (by rfl) (by rfl) ?_ | refine x_add (by rfl) (by rfl) (by rfl) (by omega) ?_ | refine x_sub (by rfl) (by rfl) (by rfl) (by omega) ?_ | refine x_lss (by rfl) (by rfl) (by rfl) ?_ | refine x_geq (by rfl) (by rfl) (by rfl) ?_ | refine x_leq (by rfl) (by rfl) (by rfl) ?_ | refine x_gtr (by rfl) (by rfl) (by rfl) ?_ | refine x_eql (by rfl) (by rfl) (by rfl) ?_ | refine x_neq (by rfl) (by rfl) (by rfl) ?_ | refine x_not (by rfl) (by rfl) ?_)
  refine x_nilw ?_
  (repeat (first | refine swp_seq ?_ | refine swp_block ?_))
  refine swp_cutQ (SI w bp L.length N) ?_ ?_
  · refine swp_fork 5 11 [0, 1, 2, 3, 4, 6, 7, 8, 9, 5, 11, 10, 12] [0, 1, 2, 3, 4, 6, 7, 8, 9, 11, 5, 10, 12] (Ext w) [1009, 1010, 12] [1009, 1010, 12] Mixed.h (by omega) (by simp) (by simp) (by kernel_rfl) (by kernel_rfl) (by kernel_rfl) (by kernel_rfl) (ext_drew w) ?_ ?_
    · repeat (first | refine x_move (by rfl) ?_ | refine x_as (by rfl) (by rfl) ?_ | refine x_skip (by rfl) ?_ | refine x_fld (by rfl) (by rfl) FldO.h ?_ | refine w_load (by rfl) (by rfl) (load_one OneT.h (by assumption) (by rfl)) ?_ | refine x_nilck (by rfl) (by rfl) ?_ | refine x_len (by rfl) (by rfl) ElOf.some ?_ | refine x_iface (by rfl) (by rfl) NIf.h ?_ | refine x_ext (by rfl) (by rfl) (by rfl) ?_ | refine x_pickT (by rfl) (by rfl) (by rfl) ?_ | refine x_pickF (by rfl) (by rfl) (by rfl) ?_ | refine x_add (by rfl) (by rfl) (by rfl) (by omega) ?_ | refine x_sub (by rfl) (by rfl) (by rfl) (by omega) ?_ | refine x_lss (by rfl) (by rfl) (by rfl) ?_ | refine x_geq (by rfl) (by rfl) (by rfl) ?_ | refine x_leq (by rfl) (by rfl) (by rfl) ?_ | refine x_gtr (by rfl) (by rfl) (by rfl) ?_ | refine x_eql (by rfl) (by rfl) (by rfl) ?_ | refine x_neq (by rfl) (by rfl) (by rfl) ?_ | refine x_not (by rfl) (by rfl) ?_)
      refine q_load (by rfl) (by rfl) (by rfl) (fun w' hw' => load_one OneT.h (hb.at hw') (by rfl)) ?_
      repeat (first | refine x_move (by rfl) ?_ | refine x_as (by rfl) (by rfl) ?_ | refine x_skip (by rfl) ?_ | refine x_fld (by rfl) (by rfl) FldO.h ?_ | refine w_load (by rfl) (by rfl) (load_one OneT.h (by assumption) (by rfl)) ?_ | refine x_nilck (by rfl) (by rfl) ?_ | refine x_len (by rfl) (by rfl) ElOf.some ?_ | refine x_iface (by rfl) (by rfl) NIf.h ?_ | refine x_ext (by rfl) (by rfl) (by rfl) ?_ | refine x_pickT (by rfl) (by rfl) (by rfl) ?_ | refine x_pickF (by rfl) (by rfl) (by rfl) ?_ | refine x_add (by rfl) (by rfl) (by rfl) (by omega) ?_ | refine x_sub (by rfl) (by rfl) (by rfl) (by omega) ?_ | refine x_lss (by rfl) (by rfl) (by rfl) ?_ | refine x_geq (by rfl) (by rfl) (by rfl) ?_ | refine x_leq (by rfl) (by rfl) (by rfl) ?_ | refine x_gtr (by rfl) (by rfl) (by rfl) ?_ | refine x_eql (by rfl) (by rfl) (by rfl) ?_ | refine x_neq (by rfl) (by rfl) (by rfl) ?_ | refine x_not (by rfl) (by rfl) ?_)
      refine q_load (by rfl) (by rfl) (by rfl) (fun w' hw' => load_one OneT.h (hb.at hw') (by rfl)) ?_
      refine f_make L.length L.length (by rfl) (by rfl) (by rfl) (by rfl) SlC.h ZeroT.h (by rfl) rfl (by omega) hrE (fun _ _ h u => Upd.trans h u) ?_
      intro w1 b3 w2 u1 e3 u2 h3
      refine f_alloc (by rfl) (by rfl) ZeroT.h (fun _ _ h u => Upd.trans h u) ?_
      intro w4 b2 w5 u4 e2 u5 h2
      refine x_build (v := .agg [.slice (some ⟨b3, 0, none⟩) L.length L.length, .int .u64 (N : Nat)].toArray) (by rfl) (by rfl) (fun _ => by kernel_rfl) ?_
      refine x_fix (by rfl) (by rfl) (by rfl) fun w6 u6 => ?_
      refine w_store (xs := [.slice (some ⟨b3, 0, none⟩) L.length L.length, .int .u64 (N : Nat)]) (by rfl) (by rfl) (by rfl) (by rfl) SzT.h (by rfl) (by rfl) (h2.at u6) (by simp) ?_
      intro w7 u7 h7 _
      refine x_nilw ?_
      have s1 := u1.size; have s2 := u2.size; have s4 := u4.size; have s5 := u5.size
      have l3 := h3.lt
      refine ⟨rfl, b2, b3, _, at_ ⟨rfl, rfl, trivial⟩, ?_, by omega, by omega, by omega, h7, (h3.at ((u4.trans u5).trans u6)).get u7 (by omega), by simp [size_madeCells]⟩
      exact ((((u1.trans u2).trans u4).trans u5).trans u6).trans' u7 (fun b hb e => by have e' : b = b2 := e; omega)
    · repeat (first | refine x_move (by rfl) ?_ | refine x_as (by rfl) (by rfl) ?_ | refine x_skip (by rfl) ?_ | refine x_fld (by rfl) (by rfl) FldO.h ?_ | refine w_load (by rfl) (by rfl) (load_one OneT.h (by assumption) (by rfl)) ?_ | refine x_nilck (by rfl) (by rfl) ?_ | refine x_len (by rfl) (by rfl) ElOf.some ?_ | refine x_iface (by rfl) (by rfl) NIf.h ?_ | refine x_ext (by rfl) (by rfl) (by rfl) ?_ | refine x_pickT (by rfl) (by rfl) (by rfl) ?_ | refine x_pickF (by rfl) (by rfl) (by rfl) ?_ | refine x_add (by rfl) (by rfl) (by rfl) (by omega) ?_ | refine x_sub (by rfl) (by rfl) (by rfl) (by omega) ?_ | refine x_lss (by rfl) (by rfl) (by rfl) ?_ | refine x_geq (by rfl) (by rfl) (by rfl) ?_ | refine x_leq (by rfl) (by rfl) (by rfl) ?_ | refine x_gtr (by rfl) (by rfl) (by rfl) ?_ | refine x_eql (by rfl) (by rfl) (by rfl) ?_ | refine x_neq (by rfl) (by rfl) (by rfl) ?_ | refine x_not (by rfl) (by rfl) ?_)
      refine q_load (by rfl) (by rfl) (by rfl) (fun w' hw' => load_one OneT.h (hb.at hw') (by rfl)) ?_
      repeat (first | refine x_move (by rfl) ?_ | refine x_as (by rfl) (by rfl) ?_ | refine x_skip (by rfl) ?_ | refine x_fld (by rfl) (by rfl) FldO.h ?_ | refine w_load (by rfl) (by rfl) (load_one OneT.h (by assumption) (by rfl)) ?_ | refine x_nilck (by rfl) (by rfl) ?_ | refine x_len (by rfl) (by rfl) ElOf.some ?_ | refine x_iface (by rfl) (by rfl) NIf.h ?_ | refine x_ext (by rfl) (by rfl) (by rfl) ?_ | refine x_pickT (by rfl) (by rfl) (by rfl) ?_ | refine x_pickF (by rfl) (by rfl) (by rfl) ?_ | refine x_add (by rfl) (by rfl) (by rfl) (by omega) ?_ | refine x_sub (by rfl) (by rfl) (by rfl) (by omega) ?_ | refine x_lss (by rfl) (by rfl) (by rfl) ?_ | refine x_geq (by rfl) (by rfl) (by rfl) ?_ | refine x_leq (by rfl) (by rfl) (by rfl) ?_ | refine x_gtr (by rfl) (by rfl) (by rfl) ?_ | refine x_eql (by rfl) (by rfl) (by rfl) ?_ | refine x_neq (by rfl) (by rfl) (by rfl) ?_ | refine x_not (by rfl) (by rfl) ?_)
      refine q_load (by rfl) (by rfl) (by rfl) (fun w' hw' => load_one OneT.h (hb.at hw') (by rfl)) ?_
      refine f_alloc (by rfl) (by rfl) ZeroT.h (fun _ _ h u => Upd.trans h u) ?_
      intro w1 b2 w2 u1 e2 u2 h2
      refine f_make L.length L.length (by rfl) (by rfl) (by rfl) (by rfl) SlC.h ZeroT.h (by rfl) rfl (by omega) hrE (fun _ _ h u => Upd.trans h u) ?_
      intro w4 b3 w5 u4 e3 u5 h3
      refine x_build (v := .agg [.slice (some ⟨b3, 0, none⟩) L.length L.length, .int .u64 (N : Nat)].toArray) (by rfl) (by rfl) (fun _ => by kernel_rfl) ?_
      refine x_fix (by rfl) (by rfl) (by rfl) fun w6 u6 => ?_
      refine w_store (xs := [.slice (some ⟨b3, 0, none⟩) L.length L.length, .int .u64 (N : Nat)]) (by rfl) (by rfl) (by rfl) (by rfl) SzT.h (by rfl) (by rfl) (h2.at ((u4.trans u5).trans u6)) (by simp) ?_
      intro w7 u7 h7 _
      refine x_nilw ?_
      have s1 := u1.size; have s2 := u2.size; have s4 := u4.size; have s5 := u5.size
      have l2 := h2.lt
      refine ⟨rfl, b2, b3, _, at_ ⟨rfl, rfl, trivial⟩, ?_, by omega, by omega, by omega, h7, (h3.at u6).get u7 (by omega), by simp [size_madeCells]⟩
      exact ((((u1.trans u2).trans u4).trans u5).trans u6).trans' u7 (fun b hb e => by have e' : b = b2 := e; omega)
  · rintro σ w3 ⟨b2, b3, cs, ⟨ρ, rfl⟩, u3, hb2, hb3, hne, h2, h3, hcs⟩
    have hb' := hb.at u3
    have hP3 := hP.at u3
    (repeat (first | with_reducible refine n_then ?_ | with_reducible refine n_block ?_ | with_reducible refine n_jump ?_))
    (repeat (first | refine swp_seq ?_ | refine swp_block ?_)); refine swp_draw (Ext w3) [6] Mixed.h (by kernel_rfl) (by kernel_rfl) (ext_drew w3) ?_
    repeat (first | refine x_move (by rfl) ?_ | refine x_as (by rfl) (by rfl) ?_ | refine x_skip (by rfl) ?_ | refine x_fld (by rfl) (by rfl) FldO.h ?_ | refine w_load (by rfl) (by rfl) (load_one OneT.h (by assumption) (by rfl)) ?_ | refine x_nilck (by rfl) (by rfl) ?_ | refine x_len (by rfl) (by rfl) ElOf.some ?_ | refine x_iface (by rfl) (by rfl) NIf.h ?_ | refine x_ext (by rfl) (by rfl) (by rfl) ?_ | refine x_pickT (by rfl) (by rfl) (by rfl) ?_ | refine x_pickF (by rfl) (by rfl) (by rfl) ?_ | refine x_add (by rfl) (by rfl) (by rfl) (by omega) ?_ | refine x_sub (by rfl) (by rfl) (by rfl) (by omega) ?_ | refine x_lss (by rfl) (by rfl) (by rfl) ?_ | refine x_geq (by rfl) (by rfl) (by rfl) ?_ | refine x_leq (by rfl) (by rfl) (by rfl) ?_ | refine x_gtr (by rfl) (by rfl) (by rfl) ?_ | refine x_eql (by rfl) (by rfl) (by rfl) ?_ | refine x_neq (by rfl) (by rfl) (by rfl) ?_ | refine x_not (by rfl) (by rfl) ?_)
    refine q_load (by rfl) (by rfl) (by rfl) (fun w' hw' => load_one OneT.h (h2.at hw') (by rfl)) ?_
    repeat (first | refine x_move (by rfl) ?_ | refine x_as (by rfl) (by rfl) ?_ | refine x_skip (by rfl) ?_ | refine x_fld (by rfl) (by rfl) FldO.h ?_ | refine w_load (by rfl) (by rfl) (load_one OneT.h (by assumption) (by rfl)) ?_ | refine x_nilck (by rfl) (by rfl) ?_ | refine x_len (by rfl) (by rfl) ElOf.some ?_ | refine x_iface (by rfl) (by rfl) NIf.h ?_ | refine x_ext (by rfl) (by rfl) (by rfl) ?_ | refine x_pickT (by rfl) (by rfl) (by rfl) ?_ | refine x_pickF (by rfl) (by rfl) (by rfl) ?_ | refine x_add (by rfl) (by rfl) (by rfl) (by omega) ?_ | refine x_sub (by rfl) (by rfl) (by rfl) (by omega) ?_ | refine x_lss (by rfl) (by rfl) (by rfl) ?_ | refine x_geq (by rfl) (by rfl) (by rfl) ?_ | refine x_leq (by rfl) (by rfl) (by rfl) ?_ | refine x_gtr (by rfl) (by rfl) (by rfl) ?_ | refine x_eql (by rfl) (by rfl) (by rfl) ?_ | refine x_neq (by rfl) (by rfl) (by rfl) ?_ | refine x_not (by rfl) (by rfl) ?_)
    refine q_load (by rfl) (by rfl) (by rfl) (fun w' hw' => load_one OneT.h (hb'.at hw') (by rfl)) ?_
    refine x_fix (by rfl) (by rfl) (by rfl) fun w4 u4 => ?_
    refine w_copy (by rfl) (by rfl) (by rfl) (by rfl) SlC.h (hP3.own.rd.at u4) (fl_one' enE_one L) (h3.at u4) (by omega) ?_
    intro w5 u5 h5 _
    rw [List.drop_eq_nil_of_le (by omega), List.append_nil] at h5
    refine x_nilw ?_
    (repeat (first | with_reducible refine n_then ?_ | with_reducible refine n_block ?_ | with_reducible refine n_jump ?_))
    have s3 := u3.size; have s4 := u4.size; have s5 := u5.size
    have hp5 := sorted_end hH ((h2.at u4).get u5 (by omega)) h5 hne hrE
    have ue : Ext w w5 := (u3.trans u4).trans' u5 (fun b hb e => by have e' : b = b3 := e; omega)
    (repeat (first | refine swp_seq ?_ | refine swp_block ?_)); refine swp_region (by kernel_rfl) ?_
    refine w_call (by rfl) (by rfl) (by rfl) (drain ho hp5 (hrT.le (by omega)) (by omega) fun y hy => ⟨(hV y hy).at ue, fun b hb hf => by
      have := (hV y hy).lt hb
      rcases hf with h | h
      · omega
      · have h' : b = b3 := h
        omega⟩) ?_
    rintro v w6 ⟨hown, hfr, sv6, hp6, u6, hin6⟩
    repeat (first | refine x_move (by rfl) ?_ | refine x_as (by rfl) (by rfl) ?_ | refine x_skip (by rfl) ?_ | refine x_fld (by rfl) (by rfl) FldO.h ?_ | refine w_load (by rfl) (by rfl) (load_one OneT.h (by assumption) (by rfl)) ?_ | refine x_nilck (by rfl) (by rfl) ?_ | refine x_len (by rfl) (by rfl) ElOf.some ?_ | refine x_iface (by rfl) (by rfl) NIf.h ?_ | refine x_ext (by rfl) (by rfl) (by rfl) ?_ | refine x_pickT (by rfl) (by rfl) (by rfl) ?_ | refine x_pickF (by rfl) (by rfl) (by rfl) ?_ | refine x_add (by rfl) (by rfl) (by rfl) (by omega) ?_ | refine x_sub (by rfl) (by rfl) (by rfl) (by omega) ?_ | refine x_lss (by rfl) (by rfl) (by rfl) ?_ | refine x_geq (by rfl) (by rfl) (by rfl) ?_ | refine x_leq (by rfl) (by rfl) (by rfl) ?_ | refine x_gtr (by rfl) (by rfl) (by rfl) ?_ | refine x_eql (by rfl) (by rfl) (by rfl) ?_ | refine x_neq (by rfl) (by rfl) (by rfl) ?_ | refine x_not (by rfl) (by rfl) ?_)
    refine x_nilw ?_
    refine swp_ret ?_; (repeat (first | with_reducible refine r_then ?_ | with_reducible refine r_block ?_ | with_reducible refine r_jump ?_))
    refine post1 rfl rfl ⟨_, rfl, hown, fun b hb => ?_, ue.trans' u6 (fun b hb h => ?_)⟩
    · have := hfr b hb
      have := ue.size
      omega
    · rcases h with h | h
      · omega
      · have h' : b = b3 := h
        omega
end Go.Proofs.Ytpnigekkbmanlaa.PWt
