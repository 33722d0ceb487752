/- The document's own gate: Push. Conditions: none. -/
import Derived.Test.YtnhecopgecoloaaGl
namespace Go.Proofs.Ytnhecopgecoloaa
open Hp Sx

/-- what is still to come -/
def toCome (e : Ev) (laid : Bool) (l : List Ev) : List Ev := if laid then l else put elt l e
theorem come_step {e f : Ev} {laid : Bool} {out D T : List Ev} (h : out ++ toCome e laid (f :: D) = T) : (if (!laid && elt e f) then out ++ [e] else out) ++ [f] ++ toCome e (laid || elt e f) D = T := by
  cases laid with
  | true => simpa [toCome] using h
  | false =>
    cases hef : elt e f with
    | true => simpa [toCome, put, hef] using h
    | false => simpa [toCome, put, hef] using h

set_option maxHeartbeats 4000000 in
set_option maxRecDepth 100000 in
theorem m_push {w : World} {bm : Nat} {sl : Value} {g : GS} (e : Ev) (h : Mo w bm sl g) (ok : g.Ok) : Gets Try.prog 45 [.pointer (some ⟨bm, 0, none⟩), e.v] w fun v w' =>
    v = .int .i64 (g.pcode e) ∧ ∃ sl', Mo w' bm sl' (g.push e) ∧ Upd (fun b => b = bm) w w' ∧ ∀ b, mfoot bm sl' b → mfoot bm sl b ∨ w.heap.size ≤ b := by
  have hl := ok.len'
  obtain ⟨a, c, rfl⟩ := h.rd.slice
  have hbl := h.blk.lt
  have same : ∀ (c' : Int) (w' : World), g.pcode e = c' → c' ≠ 0 → Ext w w' → Value.int .i64 c' = .int .i64 (g.pcode e) ∧ ∃ sl', Mo w' bm sl' (g.push e) ∧ Upd (fun b => b = bm) w w' ∧ ∀ b, mfoot bm sl' b → mfoot bm (.slice a g.S.length c) b ∨ w.heap.size ≤ b :=
    fun c' w' hc h0 u => ⟨by rw [hc], _, by rw [push_no (by omega)]; exact h.at u, u.of _, fun b hb => .inl hb⟩
  refine ⟨GoFn.h, calls_of_swp 94 Try.func45 Try.ntmps45 rfl (Nat.le_of_ble_eq_true rfl) ?_⟩
  (repeat (first | refine swp_seq ?_ | refine swp_block ?_)); refine swp_region (by kernel_rfl) ?_
  refine w_boxA (by rfl) (by rfl) (by rfl) ?_; intro b0 w0 e0 u0 h0
  repeat (first | refine x_move (by rfl) ?_ | refine x_as (by rfl) (by rfl) ?_ | refine x_skip (by rfl) ?_ | refine x_fld (by rfl) (by rfl) FldO.h ?_ | refine x_nilck (by rfl) (by rfl) ?_ | refine x_len (by rfl) (by rfl) ElOf.some ?_ | refine x_ext (by rfl) (by rfl) (by rfl) ?_ | refine x_pickT (by rfl) (by rfl) (by rfl) ?_ | refine x_pickF (by rfl) (by rfl) (by rfl) ?_ | refine x_add (by rfl) (by rfl) (by rfl) (by omega) ?_ | refine x_sub (by rfl) (by rfl) (by rfl) (by omega) ?_ | refine x_not (by rfl) (by rfl) ?_)
  refine x_nilw ?_
  replace h0 : Blk w0 b0 30 e.cells := h0
  have g0 := h.at u0
  (repeat (first | refine swp_seq ?_ | refine swp_block ?_)); refine swp_region (by kernel_rfl) ?_
  repeat (first | refine x_move (by rfl) ?_ | refine x_as (by rfl) (by rfl) ?_ | refine x_skip (by rfl) ?_ | refine x_fld (by rfl) (by rfl) FldO.h ?_ | refine x_nilck (by rfl) (by rfl) ?_ | refine x_len (by rfl) (by rfl) ElOf.some ?_ | refine x_ext (by rfl) (by rfl) (by rfl) ?_ | refine x_pickT (by rfl) (by rfl) (by rfl) ?_ | refine x_pickF (by rfl) (by rfl) (by rfl) ?_ | refine x_add (by rfl) (by rfl) (by rfl) (by omega) ?_ | refine x_sub (by rfl) (by rfl) (by rfl) (by omega) ?_ | refine x_not (by rfl) (by rfl) ?_)
  refine w_load (by rfl) (by rfl) (load_one OneT.h g0.blk (by rfl)) ?_
  repeat (first | refine x_move (by rfl) ?_ | refine x_as (by rfl) (by rfl) ?_ | refine x_skip (by rfl) ?_ | refine x_fld (by rfl) (by rfl) FldO.h ?_ | refine x_nilck (by rfl) (by rfl) ?_ | refine x_len (by rfl) (by rfl) ElOf.some ?_ | refine x_ext (by rfl) (by rfl) (by rfl) ?_ | refine x_pickT (by rfl) (by rfl) (by rfl) ?_ | refine x_pickF (by rfl) (by rfl) (by rfl) ?_ | refine x_add (by rfl) (by rfl) (by rfl) (by omega) ?_ | refine x_sub (by rfl) (by rfl) (by rfl) (by omega) ?_ | refine x_not (by rfl) (by rfl) ?_)
  refine x_nilw ?_
  (repeat (first | refine swp_seq ?_ | refine swp_block ?_))
  refine swp_ifb (by rfl) (fun c1 => ?_) (fun c1 => ?_)
  · (repeat (first | refine swp_seq ?_ | refine swp_block ?_)); refine swp_region (by kernel_rfl) ?_
    repeat (first | refine x_move (by rfl) ?_ | refine x_as (by rfl) (by rfl) ?_ | refine x_skip (by rfl) ?_ | refine x_fld (by rfl) (by rfl) FldO.h ?_ | refine x_nilck (by rfl) (by rfl) ?_ | refine x_len (by rfl) (by rfl) ElOf.some ?_ | refine x_ext (by rfl) (by rfl) (by rfl) ?_ | refine x_pickT (by rfl) (by rfl) (by rfl) ?_ | refine x_pickF (by rfl) (by rfl) (by rfl) ?_ | refine x_add (by rfl) (by rfl) (by rfl) (by omega) ?_ | refine x_sub (by rfl) (by rfl) (by rfl) (by omega) ?_ | refine x_not (by rfl) (by rfl) ?_)
    refine x_nilw ?_
    refine swp_ret ?_; (repeat (first | with_reducible refine r_then ?_ | with_reducible refine r_block ?_ | with_reducible refine r_jump ?_))
    exact post1 rfl rfl ⟨_, rfl, same 101 w0 (by unfold GS.pcode; rw [c1, if_pos rfl]) (by omega) u0⟩
  refine swp_seq ?_
  refine PEv.swp_cutQ (fun σ w' => At σ [(0, .pointer (some ⟨bm, 0, none⟩)), (3, .pointer (some ⟨b0, 0, none⟩)), (14, .bool (!rng e.ts))] ∧ w0 = w') ?_ ?_
  · (repeat (first | refine swp_seq ?_ | refine swp_block ?_)); refine swp_region (by kernel_rfl) ?_
    repeat (first | refine x_move (by rfl) ?_ | refine x_as (by rfl) (by rfl) ?_ | refine x_skip (by rfl) ?_ | refine x_fld (by rfl) (by rfl) FldO.h ?_ | refine x_nilck (by rfl) (by rfl) ?_ | refine x_len (by rfl) (by rfl) ElOf.some ?_ | refine x_ext (by rfl) (by rfl) (by rfl) ?_ | refine x_pickT (by rfl) (by rfl) (by rfl) ?_ | refine x_pickF (by rfl) (by rfl) (by rfl) ?_ | refine x_add (by rfl) (by rfl) (by rfl) (by omega) ?_ | refine x_sub (by rfl) (by rfl) (by rfl) (by omega) ?_ | refine x_not (by rfl) (by rfl) ?_)
    refine w_load (v := .int .i64 e.ts) (by rfl) (by rfl) (load_one OneT.h h0 (by rfl)) ?_
    by_cases l1 : e.ts < minT
    · refine x_lssT (by rfl) (by rfl) (by rfl) l1 ?_
      repeat (first | refine x_move (by rfl) ?_ | refine x_as (by rfl) (by rfl) ?_ | refine x_skip (by rfl) ?_ | refine x_fld (by rfl) (by rfl) FldO.h ?_ | refine x_nilck (by rfl) (by rfl) ?_ | refine x_len (by rfl) (by rfl) ElOf.some ?_ | refine x_ext (by rfl) (by rfl) (by rfl) ?_ | refine x_pickT (by rfl) (by rfl) (by rfl) ?_ | refine x_pickF (by rfl) (by rfl) (by rfl) ?_ | refine x_add (by rfl) (by rfl) (by rfl) (by omega) ?_ | refine x_sub (by rfl) (by rfl) (by rfl) (by omega) ?_ | refine x_not (by rfl) (by rfl) ?_)
      refine x_nilw ?_
      rw [show rng e.ts = false by cases hr : rng e.ts with | false => rfl | true => have := rng_iff.1 hr; omega]
      exact ⟨rfl, at_ ⟨rfl, rfl, rfl, trivial⟩, rfl⟩
    · refine x_lssF (by rfl) (by rfl) (by rfl) l1 ?_
      repeat (first | refine x_move (by rfl) ?_ | refine x_as (by rfl) (by rfl) ?_ | refine x_skip (by rfl) ?_ | refine x_fld (by rfl) (by rfl) FldO.h ?_ | refine x_nilck (by rfl) (by rfl) ?_ | refine x_len (by rfl) (by rfl) ElOf.some ?_ | refine x_ext (by rfl) (by rfl) (by rfl) ?_ | refine x_pickT (by rfl) (by rfl) (by rfl) ?_ | refine x_pickF (by rfl) (by rfl) (by rfl) ?_ | refine x_add (by rfl) (by rfl) (by rfl) (by omega) ?_ | refine x_sub (by rfl) (by rfl) (by rfl) (by omega) ?_ | refine x_not (by rfl) (by rfl) ?_)
      refine w_load (v := .int .i64 e.ts) (by rfl) (by rfl) (load_one OneT.h h0 (by rfl)) ?_
      refine x_gtr (by rfl) (by rfl) (by rfl) ?_
      repeat (first | refine x_move (by rfl) ?_ | refine x_as (by rfl) (by rfl) ?_ | refine x_skip (by rfl) ?_ | refine x_fld (by rfl) (by rfl) FldO.h ?_ | refine x_nilck (by rfl) (by rfl) ?_ | refine x_len (by rfl) (by rfl) ElOf.some ?_ | refine x_ext (by rfl) (by rfl) (by rfl) ?_ | refine x_pickT (by rfl) (by rfl) (by rfl) ?_ | refine x_pickF (by rfl) (by rfl) (by rfl) ?_ | refine x_add (by rfl) (by rfl) (by rfl) (by omega) ?_ | refine x_sub (by rfl) (by rfl) (by rfl) (by omega) ?_ | refine x_not (by rfl) (by rfl) ?_)
      refine x_nilw ?_
      rw [show (!rng e.ts) = decide (maxT < e.ts) by
        by_cases l2 : maxT < e.ts
        · rw [decide_eq_true l2]; cases hr : rng e.ts with | false => rfl | true => have := rng_iff.1 hr; omega
        · rw [decide_eq_false l2, rng_iff.2 ⟨by omega, by omega⟩]; rfl]
      exact ⟨rfl, at_ ⟨rfl, rfl, rfl, trivial⟩, rfl⟩
  rintro σ w' ⟨⟨ρ, rfl⟩, rfl⟩
  refine n_then ?_
  refine swp_ifb (by rfl) (fun c2 => ?_) (fun c2 => ?_)
  · (repeat (first | refine swp_seq ?_ | refine swp_block ?_)); refine swp_region (by kernel_rfl) ?_
    repeat (first | refine x_move (by rfl) ?_ | refine x_as (by rfl) (by rfl) ?_ | refine x_skip (by rfl) ?_ | refine x_fld (by rfl) (by rfl) FldO.h ?_ | refine x_nilck (by rfl) (by rfl) ?_ | refine x_len (by rfl) (by rfl) ElOf.some ?_ | refine x_ext (by rfl) (by rfl) (by rfl) ?_ | refine x_pickT (by rfl) (by rfl) (by rfl) ?_ | refine x_pickF (by rfl) (by rfl) (by rfl) ?_ | refine x_add (by rfl) (by rfl) (by rfl) (by omega) ?_ | refine x_sub (by rfl) (by rfl) (by rfl) (by omega) ?_ | refine x_not (by rfl) (by rfl) ?_)
    refine x_nilw ?_
    refine swp_ret ?_; (repeat (first | with_reducible refine r_then ?_ | with_reducible refine r_block ?_ | with_reducible refine r_jump ?_))
    exact post1 rfl rfl ⟨_, rfl, same 29 w0 (by unfold GS.pcode; rw [c1, if_neg (by decide), if_pos (by simpa using c2)]) (by omega) u0⟩
  replace c2 : rng e.ts = true := by simpa using c2
  (repeat (first | refine swp_seq ?_ | refine swp_block ?_)); refine swp_draw (Ext w0) [] Mixed.h (by kernel_rfl) (by kernel_rfl) (ext_drew w0) ?_
  repeat (first | refine x_move (by rfl) ?_ | refine x_as (by rfl) (by rfl) ?_ | refine x_skip (by rfl) ?_ | refine x_fld (by rfl) (by rfl) FldO.h ?_ | refine x_nilck (by rfl) (by rfl) ?_ | refine x_len (by rfl) (by rfl) ElOf.some ?_ | refine x_ext (by rfl) (by rfl) (by rfl) ?_ | refine x_pickT (by rfl) (by rfl) (by rfl) ?_ | refine x_pickF (by rfl) (by rfl) (by rfl) ?_ | refine x_add (by rfl) (by rfl) (by rfl) (by omega) ?_ | refine x_sub (by rfl) (by rfl) (by rfl) (by omega) ?_ | refine x_not (by rfl) (by rfl) ?_)
  refine q_load (v := .int .i64 e.ts) (by rfl) (by rfl) (by rfl) (fun w' hw' => load_one OneT.h (h0.at hw') (by rfl)) ?_
  repeat (first | refine x_move (by rfl) ?_ | refine x_as (by rfl) (by rfl) ?_ | refine x_skip (by rfl) ?_ | refine x_fld (by rfl) (by rfl) FldO.h ?_ | refine x_nilck (by rfl) (by rfl) ?_ | refine x_len (by rfl) (by rfl) ElOf.some ?_ | refine x_ext (by rfl) (by rfl) (by rfl) ?_ | refine x_pickT (by rfl) (by rfl) (by rfl) ?_ | refine x_pickF (by rfl) (by rfl) (by rfl) ?_ | refine x_add (by rfl) (by rfl) (by rfl) (by omega) ?_ | refine x_sub (by rfl) (by rfl) (by rfl) (by omega) ?_ | refine x_not (by rfl) (by rfl) ?_)
  refine q_load (v := .int .i64 g.mark) (by rfl) (by rfl) (by rfl) (fun w' hw' => load_one OneT.h (g0.blk.at hw') (by rfl)) ?_
  refine x_leq (by rfl) (by rfl) (by rfl) ?_
  repeat (first | refine x_move (by rfl) ?_ | refine x_as (by rfl) (by rfl) ?_ | refine x_skip (by rfl) ?_ | refine x_fld (by rfl) (by rfl) FldO.h ?_ | refine x_nilck (by rfl) (by rfl) ?_ | refine x_len (by rfl) (by rfl) ElOf.some ?_ | refine x_ext (by rfl) (by rfl) (by rfl) ?_ | refine x_pickT (by rfl) (by rfl) (by rfl) ?_ | refine x_pickF (by rfl) (by rfl) (by rfl) ?_ | refine x_add (by rfl) (by rfl) (by rfl) (by omega) ?_ | refine x_sub (by rfl) (by rfl) (by rfl) (by omega) ?_ | refine x_not (by rfl) (by rfl) ?_)
  refine x_nil fun w1 u1 => ?_
  (repeat (first | refine swp_seq ?_ | refine swp_block ?_))
  refine swp_if (by rfl) (fun c3 => ?_) (fun c3 => swp_skip ?_)
  · (repeat (first | refine swp_seq ?_ | refine swp_block ?_)); refine swp_region (by kernel_rfl) ?_
    repeat (first | refine x_move (by rfl) ?_ | refine x_as (by rfl) (by rfl) ?_ | refine x_skip (by rfl) ?_ | refine x_fld (by rfl) (by rfl) FldO.h ?_ | refine x_nilck (by rfl) (by rfl) ?_ | refine x_len (by rfl) (by rfl) ElOf.some ?_ | refine x_ext (by rfl) (by rfl) (by rfl) ?_ | refine x_pickT (by rfl) (by rfl) (by rfl) ?_ | refine x_pickF (by rfl) (by rfl) (by rfl) ?_ | refine x_add (by rfl) (by rfl) (by rfl) (by omega) ?_ | refine x_sub (by rfl) (by rfl) (by rfl) (by omega) ?_ | refine x_not (by rfl) (by rfl) ?_)
    refine x_nilw ?_
    refine swp_ret ?_; (repeat (first | with_reducible refine r_then ?_ | with_reducible refine r_block ?_ | with_reducible refine r_jump ?_))
    exact post1 rfl rfl ⟨_, rfl, same 102 w1 (by unfold GS.pcode; rw [c1, if_neg (by decide), if_neg (by simp [c2]), if_pos c3]) (by omega) (u0.trans u1)⟩
  (repeat (first | with_reducible refine n_then ?_ | with_reducible refine n_block ?_ | with_reducible refine n_jump ?_))
  refine swp_fit [(0, .pointer (some ⟨bm, 0, none⟩)), (3, .pointer (some ⟨b0, 0, none⟩))] ⟨rfl, rfl, trivial⟩ fun ρ => ?_
  have u01 := u0.trans u1
  have s01 := u01.size
  have hb0 := h0.at u1
  have hbw : w.heap.size ≤ b0 := by omega
  (repeat (first | refine swp_seq ?_ | refine swp_block ?_)); refine swp_region (by kernel_rfl) ?_
  repeat (first | refine x_move (by rfl) ?_ | refine x_as (by rfl) (by rfl) ?_ | refine x_skip (by rfl) ?_ | refine x_fld (by rfl) (by rfl) FldO.h ?_ | refine x_nilck (by rfl) (by rfl) ?_ | refine x_len (by rfl) (by rfl) ElOf.some ?_ | refine x_ext (by rfl) (by rfl) (by rfl) ?_ | refine x_pickT (by rfl) (by rfl) (by rfl) ?_ | refine x_pickF (by rfl) (by rfl) (by rfl) ?_ | refine x_add (by rfl) (by rfl) (by rfl) (by omega) ?_ | refine x_sub (by rfl) (by rfl) (by rfl) (by omega) ?_ | refine x_not (by rfl) (by rfl) ?_)
  refine x_nilw ?_
  (repeat (first | refine swp_seq ?_ | refine swp_block ?_)); refine swp_region (by kernel_rfl) ?_
  repeat (first | refine x_move (by rfl) ?_ | refine x_as (by rfl) (by rfl) ?_ | refine x_skip (by rfl) ?_ | refine x_fld (by rfl) (by rfl) FldO.h ?_ | refine x_nilck (by rfl) (by rfl) ?_ | refine x_len (by rfl) (by rfl) ElOf.some ?_ | refine x_ext (by rfl) (by rfl) (by rfl) ?_ | refine x_pickT (by rfl) (by rfl) (by rfl) ?_ | refine x_pickF (by rfl) (by rfl) (by rfl) ?_ | refine x_add (by rfl) (by rfl) (by rfl) (by omega) ?_ | refine x_sub (by rfl) (by rfl) (by rfl) (by omega) ?_ | refine x_not (by rfl) (by rfl) ?_)
  refine x_nilw ?_
  (repeat (first | refine swp_seq ?_ | refine swp_block ?_)); refine swp_region (by kernel_rfl) ?_
  repeat (first | refine x_move (by rfl) ?_ | refine x_as (by rfl) (by rfl) ?_ | refine x_skip (by rfl) ?_ | refine x_fld (by rfl) (by rfl) FldO.h ?_ | refine x_nilck (by rfl) (by rfl) ?_ | refine x_len (by rfl) (by rfl) ElOf.some ?_ | refine x_ext (by rfl) (by rfl) (by rfl) ?_ | refine x_pickT (by rfl) (by rfl) (by rfl) ?_ | refine x_pickF (by rfl) (by rfl) (by rfl) ?_ | refine x_add (by rfl) (by rfl) (by rfl) (by omega) ?_ | refine x_sub (by rfl) (by rfl) (by rfl) (by omega) ?_ | refine x_not (by rfl) (by rfl) ?_)
  refine x_nilw ?_
  (repeat (first | refine swp_seq ?_ | refine swp_block ?_))
  refine swp_loop (fun (s : Nat × Bool × List Ev) σ w2 => ∃ so, At σ [(0, .pointer (some ⟨bm, 0, none⟩)), (3, .pointer (some ⟨b0, 0, none⟩)), (5, so), (6, .bool s.2.1), (7, .int .i64 (s.1 : Nat))] ∧ s.1 ≤ g.S.length ∧ (∀ y ∈ g.S.take s.1, y.nm ≠ e.nm) ∧ s.2.2 ++ toCome e s.2.1 (g.S.drop s.1) = put elt g.S e ∧ s.2.2.length = s.1 + (if s.2.1 then 1 else 0) ∧ Own w2 30 11 so s.2.2.length (fl Ev.cells s.2.2) ∧ (∀ b, isIn so b → w1.heap.size ≤ b) ∧ Ext w1 w2) (fun s => g.S.length - s.1) (0, false, []) ⟨.slice none 0 0, at_ ⟨rfl, rfl, rfl, rfl, rfl, trivial⟩, by simp, by simp, by simp [toCome], by simp, Own.nil _ _ _, fun b hb => hb.elim, Upd.refl _ _⟩ ?_
  rintro ⟨i, laid, out⟩ σ w2 ⟨so, ⟨ρ, rfl⟩, hi, hno, hp, hlo, hown, hfr, u2⟩
  simp only at hi hno hp hlo hown
  dsimp only
  have g2 := h.at (u01.trans u2)
  have h2 := hb0.at u2
  have s2 := u2.size
  (repeat (first | refine swp_seq ?_ | refine swp_block ?_)); refine swp_region (by kernel_rfl) ?_
  repeat (first | refine x_move (by rfl) ?_ | refine x_as (by rfl) (by rfl) ?_ | refine x_skip (by rfl) ?_ | refine x_fld (by rfl) (by rfl) FldO.h ?_ | refine x_nilck (by rfl) (by rfl) ?_ | refine x_len (by rfl) (by rfl) ElOf.some ?_ | refine x_ext (by rfl) (by rfl) (by rfl) ?_ | refine x_pickT (by rfl) (by rfl) (by rfl) ?_ | refine x_pickF (by rfl) (by rfl) (by rfl) ?_ | refine x_add (by rfl) (by rfl) (by rfl) (by omega) ?_ | refine x_sub (by rfl) (by rfl) (by rfl) (by omega) ?_ | refine x_not (by rfl) (by rfl) ?_)
  refine w_load (by rfl) (by rfl) (load_one OneT.h g2.blk (by rfl)) ?_
  repeat (first | refine x_move (by rfl) ?_ | refine x_as (by rfl) (by rfl) ?_ | refine x_skip (by rfl) ?_ | refine x_fld (by rfl) (by rfl) FldO.h ?_ | refine w_load (by rfl) (by rfl) (load_one OneT.h (by assumption) (by rfl)) ?_ | refine x_nilck (by rfl) (by rfl) ?_ | refine x_len (by rfl) (by rfl) ElOf.some ?_ | refine x_iface (by rfl) (by rfl) NIf.h ?_ | refine x_ext (by rfl) (by rfl) (by rfl) ?_ | refine x_pickT (by rfl) (by rfl) (by rfl) ?_ | refine x_pickF (by rfl) (by rfl) (by rfl) ?_ | refine x_add (by rfl) (by rfl) (by rfl) (by omega) ?_ | refine x_sub (by rfl) (by rfl) (by rfl) (by omega) ?_ | refine x_lss (by rfl) (by rfl) (by rfl) ?_ | refine x_geq (by rfl) (by rfl) (by rfl) ?_ | refine x_leq (by rfl) (by rfl) (by rfl) ?_ | refine x_gtr (by rfl) (by rfl) (by rfl) ?_ | refine x_eql (by rfl) (by rfl) (by rfl) ?_ | refine x_neq (by rfl) (by rfl) (by rfl) ?_ | refine x_not (by rfl) (by rfl) ?_)
  refine x_nilw ?_
  (repeat (first | refine swp_seq ?_ | refine swp_block ?_))
  refine swp_if (by rfl) (fun hc => swp_skip ?_) (fun hc => ?_)
  · have hi' : i < g.S.length := by omega
    obtain ⟨f, hf⟩ := nthE hi'
    rw [drop_cons' hf] at hp
    obtain ⟨b1, o1, d1, he1, -, -⟩ := h.rd.pos (by omega)
    simp only [Value.slice.injEq] at he1
    obtain ⟨rfl, _, rfl⟩ := he1
    have hlen1 : out.length ≤ i + 1 := by rw [hlo]; split <;> omega
    (repeat (first | with_reducible refine n_then ?_ | with_reducible refine n_block ?_ | with_reducible refine n_jump ?_))
    (repeat (first | refine swp_seq ?_ | refine swp_block ?_)); refine swp_region (by kernel_rfl) ?_
    repeat (first | refine x_move (by rfl) ?_ | refine x_as (by rfl) (by rfl) ?_ | refine x_skip (by rfl) ?_ | refine x_fld (by rfl) (by rfl) FldO.h ?_ | refine x_nilck (by rfl) (by rfl) ?_ | refine x_len (by rfl) (by rfl) ElOf.some ?_ | refine x_ext (by rfl) (by rfl) (by rfl) ?_ | refine x_pickT (by rfl) (by rfl) (by rfl) ?_ | refine x_pickF (by rfl) (by rfl) (by rfl) ?_ | refine x_add (by rfl) (by rfl) (by rfl) (by omega) ?_ | refine x_sub (by rfl) (by rfl) (by rfl) (by omega) ?_ | refine x_not (by rfl) (by rfl) ?_)
    refine w_load (by rfl) (by rfl) (load_one OneT.h g2.blk (by rfl)) ?_
    repeat (first | refine x_move (by rfl) ?_ | refine x_as (by rfl) (by rfl) ?_ | refine x_skip (by rfl) ?_ | refine x_fld (by rfl) (by rfl) FldO.h ?_ | refine x_nilck (by rfl) (by rfl) ?_ | refine x_len (by rfl) (by rfl) ElOf.some ?_ | refine x_ext (by rfl) (by rfl) (by rfl) ?_ | refine x_pickT (by rfl) (by rfl) (by rfl) ?_ | refine x_pickF (by rfl) (by rfl) (by rfl) ?_ | refine x_add (by rfl) (by rfl) (by rfl) (by omega) ?_ | refine x_sub (by rfl) (by rfl) (by rfl) (by omega) ?_ | refine x_not (by rfl) (by rfl) ?_)
    refine x_idx i (by rfl) (by rfl) (by rfl) ElSz.h rfl hi' ?_
    refine w_load (by rfl) (by rfl) (rd_load ev_len AggT.h g2.rd hf rfl rfl) ?_
    refine w_alloc (by rfl) (by rfl) ZeroT.h ?_; intro b3 w3 e3 u3 h3
    refine w_store (xs := f.cells) (by rfl) (by rfl) (by rfl) (by rfl) SzT.h (by rfl) (by rfl) h3 (by simp) ?_
    intro w4 u4 h4 _
    refine x_nilw ?_
    replace h4 : Blk w4 b3 30 f.cells := h4
    have u24 : Ext w2 w4 := u3.trans' u4 fun b hb e => by have e' : b = b3 := e; omega
    have s24 := u24.size
    have hb4 := h2.at u24
    have hown4 := hown.at u24
    refine swp_fit [(0, .pointer (some ⟨bm, 0, none⟩)), (3, .pointer (some ⟨b0, 0, none⟩)), (5, so), (6, .bool laid), (7, .int .i64 (i : Nat)), (8, .pointer (some ⟨b3, 0, none⟩))] ⟨rfl, rfl, rfl, rfl, rfl, rfl, trivial⟩ fun ρ => ?_
    (repeat (first | refine swp_seq ?_ | refine swp_block ?_))
    refine PEv.swp_cutQ (fun σ w5 => At σ [(0, .pointer (some ⟨bm, 0, none⟩)), (3, .pointer (some ⟨b0, 0, none⟩)), (5, so), (6, .bool laid), (7, .int .i64 (i : Nat)), (8, .pointer (some ⟨b3, 0, none⟩)), (58, .bool (decide (f.nm = e.nm)))] ∧ w4 = w5) ?_ ?_
    · (repeat (first | refine swp_seq ?_ | refine swp_block ?_)); refine swp_region (by kernel_rfl) ?_
      repeat (first | refine x_move (by rfl) ?_ | refine x_as (by rfl) (by rfl) ?_ | refine x_skip (by rfl) ?_ | refine x_fld (by rfl) (by rfl) FldO.h ?_ | refine x_nilck (by rfl) (by rfl) ?_ | refine x_len (by rfl) (by rfl) ElOf.some ?_ | refine x_ext (by rfl) (by rfl) (by rfl) ?_ | refine x_pickT (by rfl) (by rfl) (by rfl) ?_ | refine x_pickF (by rfl) (by rfl) (by rfl) ?_ | refine x_add (by rfl) (by rfl) (by rfl) (by omega) ?_ | refine x_sub (by rfl) (by rfl) (by rfl) (by omega) ?_ | refine x_not (by rfl) (by rfl) ?_)
      refine w_load (v := .int .i64 f.ts) (by rfl) (by rfl) (load_one OneT.h h4 (by rfl)) ?_
      repeat (first | refine x_move (by rfl) ?_ | refine x_as (by rfl) (by rfl) ?_ | refine x_skip (by rfl) ?_ | refine x_fld (by rfl) (by rfl) FldO.h ?_ | refine x_nilck (by rfl) (by rfl) ?_ | refine x_len (by rfl) (by rfl) ElOf.some ?_ | refine x_ext (by rfl) (by rfl) (by rfl) ?_ | refine x_pickT (by rfl) (by rfl) (by rfl) ?_ | refine x_pickF (by rfl) (by rfl) (by rfl) ?_ | refine x_add (by rfl) (by rfl) (by rfl) (by omega) ?_ | refine x_sub (by rfl) (by rfl) (by rfl) (by omega) ?_ | refine x_not (by rfl) (by rfl) ?_)
      refine w_load (v := .int .i64 e.ts) (by rfl) (by rfl) (load_one OneT.h hb4 (by rfl)) ?_
      by_cases e1 : f.ts = e.ts
      · refine x_eqlT (by rfl) (by rfl) (by rfl) e1 ?_
        repeat (first | refine x_move (by rfl) ?_ | refine x_as (by rfl) (by rfl) ?_ | refine x_skip (by rfl) ?_ | refine x_fld (by rfl) (by rfl) FldO.h ?_ | refine x_nilck (by rfl) (by rfl) ?_ | refine x_len (by rfl) (by rfl) ElOf.some ?_ | refine x_ext (by rfl) (by rfl) (by rfl) ?_ | refine x_pickT (by rfl) (by rfl) (by rfl) ?_ | refine x_pickF (by rfl) (by rfl) (by rfl) ?_ | refine x_add (by rfl) (by rfl) (by rfl) (by omega) ?_ | refine x_sub (by rfl) (by rfl) (by rfl) (by omega) ?_ | refine x_not (by rfl) (by rfl) ?_)
        refine w_load (v := .int .u64 f.id) (by rfl) (by rfl) (load_one OneT.h h4 (by rfl)) ?_
        repeat (first | refine x_move (by rfl) ?_ | refine x_as (by rfl) (by rfl) ?_ | refine x_skip (by rfl) ?_ | refine x_fld (by rfl) (by rfl) FldO.h ?_ | refine x_nilck (by rfl) (by rfl) ?_ | refine x_len (by rfl) (by rfl) ElOf.some ?_ | refine x_ext (by rfl) (by rfl) (by rfl) ?_ | refine x_pickT (by rfl) (by rfl) (by rfl) ?_ | refine x_pickF (by rfl) (by rfl) (by rfl) ?_ | refine x_add (by rfl) (by rfl) (by rfl) (by omega) ?_ | refine x_sub (by rfl) (by rfl) (by rfl) (by omega) ?_ | refine x_not (by rfl) (by rfl) ?_)
        refine w_load (v := .int .u64 e.id) (by rfl) (by rfl) (load_one OneT.h hb4 (by rfl)) ?_
        refine x_eql (by rfl) (by rfl) (by rfl) ?_
        repeat (first | refine x_move (by rfl) ?_ | refine x_as (by rfl) (by rfl) ?_ | refine x_skip (by rfl) ?_ | refine x_fld (by rfl) (by rfl) FldO.h ?_ | refine x_nilck (by rfl) (by rfl) ?_ | refine x_len (by rfl) (by rfl) ElOf.some ?_ | refine x_ext (by rfl) (by rfl) (by rfl) ?_ | refine x_pickT (by rfl) (by rfl) (by rfl) ?_ | refine x_pickF (by rfl) (by rfl) (by rfl) ?_ | refine x_add (by rfl) (by rfl) (by rfl) (by omega) ?_ | refine x_sub (by rfl) (by rfl) (by rfl) (by omega) ?_ | refine x_not (by rfl) (by rfl) ?_)
        refine x_nilw ?_
        rw [show decide (f.nm = e.nm) = decide (f.id = e.id) by
          by_cases e2 : f.id = e.id
          · rw [decide_eq_true e2]; exact decide_eq_true (by simp [Ev.nm, e1, e2])
          · rw [decide_eq_false e2]; exact decide_eq_false fun h => e2 (congrArg Nm.id h)]
        exact ⟨rfl, at_ ⟨rfl, rfl, rfl, rfl, rfl, rfl, rfl, trivial⟩, rfl⟩
      · refine x_eqlF (by rfl) (by rfl) (by rfl) e1 ?_
        repeat (first | refine x_move (by rfl) ?_ | refine x_as (by rfl) (by rfl) ?_ | refine x_skip (by rfl) ?_ | refine x_fld (by rfl) (by rfl) FldO.h ?_ | refine x_nilck (by rfl) (by rfl) ?_ | refine x_len (by rfl) (by rfl) ElOf.some ?_ | refine x_ext (by rfl) (by rfl) (by rfl) ?_ | refine x_pickT (by rfl) (by rfl) (by rfl) ?_ | refine x_pickF (by rfl) (by rfl) (by rfl) ?_ | refine x_add (by rfl) (by rfl) (by rfl) (by omega) ?_ | refine x_sub (by rfl) (by rfl) (by rfl) (by omega) ?_ | refine x_not (by rfl) (by rfl) ?_)
        refine x_nilw ?_
        rw [show decide (f.nm = e.nm) = false from decide_eq_false fun h => e1 (congrArg Nm.ts h)]
        exact ⟨rfl, at_ ⟨rfl, rfl, rfl, rfl, rfl, rfl, rfl, trivial⟩, rfl⟩
    rintro σ w5 ⟨⟨ρ, rfl⟩, rfl⟩
    refine n_then ?_
    refine swp_if (by rfl) (fun c4 => ?_) (fun c4 => swp_skip ?_)
    · (repeat (first | refine swp_seq ?_ | refine swp_block ?_)); refine swp_region (by kernel_rfl) ?_
      repeat (first | refine x_move (by rfl) ?_ | refine x_as (by rfl) (by rfl) ?_ | refine x_skip (by rfl) ?_ | refine x_fld (by rfl) (by rfl) FldO.h ?_ | refine x_nilck (by rfl) (by rfl) ?_ | refine x_len (by rfl) (by rfl) ElOf.some ?_ | refine x_ext (by rfl) (by rfl) (by rfl) ?_ | refine x_pickT (by rfl) (by rfl) (by rfl) ?_ | refine x_pickF (by rfl) (by rfl) (by rfl) ?_ | refine x_add (by rfl) (by rfl) (by rfl) (by omega) ?_ | refine x_sub (by rfl) (by rfl) (by rfl) (by omega) ?_ | refine x_not (by rfl) (by rfl) ?_)
      refine x_nilw ?_
      refine swp_ret ?_; (repeat (first | with_reducible refine r_then ?_ | with_reducible refine r_block ?_ | with_reducible refine r_jump ?_))
      have hm : e.nm ∈ g.S.map Ev.nm := c4 ▸ List.mem_map_of_mem (List.mem_of_getElem? hf)
      exact post1 rfl rfl ⟨_, rfl, same 103 w4 (by unfold GS.pcode; rw [c1, if_neg (by decide), if_neg (by simp [c2]), if_neg c3, if_pos hm]) (by omega) (u01.trans (u2.trans u24))⟩
    (repeat (first | with_reducible refine n_then ?_ | with_reducible refine n_block ?_ | with_reducible refine n_jump ?_))
    (repeat (first | refine swp_seq ?_ | refine swp_block ?_))
    refine PEv.swp_cutQ (fun σ w5 => At σ [(0, .pointer (some ⟨bm, 0, none⟩)), (3, .pointer (some ⟨b0, 0, none⟩)), (5, so), (6, .bool laid), (7, .int .i64 (i : Nat)), (8, .pointer (some ⟨b3, 0, none⟩)), (65, .bool (!laid && elt e f))] ∧ Ext w4 w5) ?_ ?_
    · (repeat (first | refine swp_seq ?_ | refine swp_block ?_)); refine swp_region (by kernel_rfl) ?_
      repeat (first | refine x_move (by rfl) ?_ | refine x_as (by rfl) (by rfl) ?_ | refine x_skip (by rfl) ?_ | refine x_fld (by rfl) (by rfl) FldO.h ?_ | refine x_nilck (by rfl) (by rfl) ?_ | refine x_len (by rfl) (by rfl) ElOf.some ?_ | refine x_ext (by rfl) (by rfl) (by rfl) ?_ | refine x_pickT (by rfl) (by rfl) (by rfl) ?_ | refine x_pickF (by rfl) (by rfl) (by rfl) ?_ | refine x_add (by rfl) (by rfl) (by rfl) (by omega) ?_ | refine x_sub (by rfl) (by rfl) (by rfl) (by omega) ?_ | refine x_not (by rfl) (by rfl) ?_)
      cases laid with
      | true =>
        repeat (first | refine x_move (by rfl) ?_ | refine x_as (by rfl) (by rfl) ?_ | refine x_skip (by rfl) ?_ | refine x_fld (by rfl) (by rfl) FldO.h ?_ | refine x_nilck (by rfl) (by rfl) ?_ | refine x_len (by rfl) (by rfl) ElOf.some ?_ | refine x_ext (by rfl) (by rfl) (by rfl) ?_ | refine x_pickT (by rfl) (by rfl) (by rfl) ?_ | refine x_pickF (by rfl) (by rfl) (by rfl) ?_ | refine x_add (by rfl) (by rfl) (by rfl) (by omega) ?_ | refine x_sub (by rfl) (by rfl) (by rfl) (by omega) ?_ | refine x_not (by rfl) (by rfl) ?_)
        refine x_nilw ?_
        exact ⟨rfl, at_ ⟨rfl, rfl, rfl, rfl, rfl, rfl, rfl, trivial⟩, Upd.refl _ _⟩
      | false =>
        repeat (first | refine x_move (by rfl) ?_ | refine x_as (by rfl) (by rfl) ?_ | refine x_skip (by rfl) ?_ | refine x_fld (by rfl) (by rfl) FldO.h ?_ | refine x_nilck (by rfl) (by rfl) ?_ | refine x_len (by rfl) (by rfl) ElOf.some ?_ | refine x_ext (by rfl) (by rfl) (by rfl) ?_ | refine x_pickT (by rfl) (by rfl) (by rfl) ?_ | refine x_pickF (by rfl) (by rfl) (by rfl) ?_ | refine x_add (by rfl) (by rfl) (by rfl) (by omega) ?_ | refine x_sub (by rfl) (by rfl) (by rfl) (by omega) ?_ | refine x_not (by rfl) (by rfl) ?_)
        refine w_load (by rfl) (by rfl) (load_agg (xs := e.cells) AggT.h hb4 (by rfl) (by rfl)) ?_
        refine w_load (by rfl) (by rfl) (load_agg (xs := f.cells) AggT.h h4 (by rfl) (by rfl)) ?_
        refine w_call (by rfl) (by rfl) (by rfl) (ref_before e f w4) ?_
        rintro _ w5 ⟨rfl, u5⟩
        repeat (first | refine x_move (by rfl) ?_ | refine x_as (by rfl) (by rfl) ?_ | refine x_skip (by rfl) ?_ | refine x_fld (by rfl) (by rfl) FldO.h ?_ | refine x_nilck (by rfl) (by rfl) ?_ | refine x_len (by rfl) (by rfl) ElOf.some ?_ | refine x_ext (by rfl) (by rfl) (by rfl) ?_ | refine x_pickT (by rfl) (by rfl) (by rfl) ?_ | refine x_pickF (by rfl) (by rfl) (by rfl) ?_ | refine x_add (by rfl) (by rfl) (by rfl) (by omega) ?_ | refine x_sub (by rfl) (by rfl) (by rfl) (by omega) ?_ | refine x_not (by rfl) (by rfl) ?_)
        refine x_nilw ?_
        exact ⟨rfl, at_ ⟨rfl, rfl, rfl, rfl, rfl, rfl, rfl, trivial⟩, u5⟩
    rintro σ w5 ⟨⟨ρ, rfl⟩, u5⟩
    refine n_then ?_
    have h5 := h4.at u5
    have hb5 := hb4.at u5
    have hown5 := hown4.at u5
    have s5 := u5.size
    have hps := come_step hp
    refine PEv.swp_cutQ (fun σ w6 => ∃ so6, At σ [(0, .pointer (some ⟨bm, 0, none⟩)), (3, .pointer (some ⟨b0, 0, none⟩)), (5, so6), (6, .bool (laid || elt e f)), (7, .int .i64 (i : Nat)), (8, .pointer (some ⟨b3, 0, none⟩))] ∧ Own w6 30 11 so6 (if (!laid && elt e f) then out ++ [e] else out).length (fl Ev.cells (if (!laid && elt e f) then out ++ [e] else out)) ∧ (∀ b, isIn so6 b → w1.heap.size ≤ b ∧ b ≠ b3) ∧ Blk w6 b3 30 f.cells ∧ Ext w1 w6) ?_ ?_
    · cases hc6 : (!laid && elt e f) with
      | true =>
        refine swp_true (by rfl) ?_
        (repeat (first | refine swp_seq ?_ | refine swp_block ?_)); refine swp_region (by kernel_rfl) ?_
        repeat (first | refine x_move (by rfl) ?_ | refine x_as (by rfl) (by rfl) ?_ | refine x_skip (by rfl) ?_ | refine x_fld (by rfl) (by rfl) FldO.h ?_ | refine x_nilck (by rfl) (by rfl) ?_ | refine x_len (by rfl) (by rfl) ElOf.some ?_ | refine x_ext (by rfl) (by rfl) (by rfl) ?_ | refine x_pickT (by rfl) (by rfl) (by rfl) ?_ | refine x_pickF (by rfl) (by rfl) (by rfl) ?_ | refine x_add (by rfl) (by rfl) (by rfl) (by omega) ?_ | refine x_sub (by rfl) (by rfl) (by rfl) (by omega) ?_ | refine x_not (by rfl) (by rfl) ?_)
        refine w_load (by rfl) (by rfl) (load_agg (xs := e.cells) AggT.h hb5 (by rfl) (by rfl)) ?_
        refine w_bslice (e := 30) (cs := e.cells) (by rfl) (by rfl) (by rfl) (by kernel_rfl) ?_
        intro b6 w6 e6 u6 h6
        refine w_append (more := []) (news := e.cells) (by rfl) (by rfl) (by rfl) (by rfl) SlC.h (hown5.at u6) (by rw [List.append_nil]; exact h6) (by rfl) (by rfl) (by omega) (room88 (by omega)) ?_
        intro so7 w7 own7 u7 hin7
        repeat (first | refine x_move (by rfl) ?_ | refine x_as (by rfl) (by rfl) ?_ | refine x_skip (by rfl) ?_ | refine x_fld (by rfl) (by rfl) FldO.h ?_ | refine x_nilck (by rfl) (by rfl) ?_ | refine x_len (by rfl) (by rfl) ElOf.some ?_ | refine x_ext (by rfl) (by rfl) (by rfl) ?_ | refine x_pickT (by rfl) (by rfl) (by rfl) ?_ | refine x_pickF (by rfl) (by rfl) (by rfl) ?_ | refine x_add (by rfl) (by rfl) (by rfl) (by omega) ?_ | refine x_sub (by rfl) (by rfl) (by rfl) (by omega) ?_ | refine x_not (by rfl) (by rfl) ?_)
        refine x_nilw ?_
        (repeat (first | with_reducible refine n_then ?_ | with_reducible refine n_block ?_ | with_reducible refine n_jump ?_))
        (repeat (first | refine swp_seq ?_ | refine swp_block ?_)); refine swp_region (by kernel_rfl) ?_
        repeat (first | refine x_move (by rfl) ?_ | refine x_as (by rfl) (by rfl) ?_ | refine x_skip (by rfl) ?_ | refine x_fld (by rfl) (by rfl) FldO.h ?_ | refine x_nilck (by rfl) (by rfl) ?_ | refine x_len (by rfl) (by rfl) ElOf.some ?_ | refine x_ext (by rfl) (by rfl) (by rfl) ?_ | refine x_pickT (by rfl) (by rfl) (by rfl) ?_ | refine x_pickF (by rfl) (by rfl) (by rfl) ?_ | refine x_add (by rfl) (by rfl) (by rfl) (by omega) ?_ | refine x_sub (by rfl) (by rfl) (by rfl) (by omega) ?_ | refine x_not (by rfl) (by rfl) ?_)
        refine x_nilw ?_
        have s6 := u6.size
        have h3l := h4.lt
        have hc7 : elt e f = true := by cases h : elt e f with | true => rfl | false => simp [h] at hc6
        rw [hc7, Bool.or_true]
        refine ⟨rfl, so7, at_ ⟨rfl, rfl, rfl, rfl, rfl, rfl, trivial⟩, ?_, fun b hb => ?_, (h5.at u6).get u7 fun hf => by have := hown.lt hf; omega, ((((u2.trans u24).trans u5).trans u6)).trans' u7 fun b hb hf => by have := hfr b hf; omega⟩
        · rw [if_pos rfl, fl_append, fl_one, List.length_append]
          exact own7
        · rcases hin7 b hb with hb | hb
          · exact ⟨hfr b hb, by have := hown.lt hb; omega⟩
          · exact ⟨by omega, by omega⟩
      | false =>
        refine swp_false (by rfl) (swp_skip ?_)
        have hor : (laid || elt e f) = laid := by cases laid with | true => rfl | false => simpa using hc6
        rw [hor, if_neg (by decide)]
        exact ⟨rfl, so, at_ ⟨rfl, rfl, rfl, rfl, rfl, rfl, trivial⟩, hown5, fun b hb => ⟨hfr b hb, by have := hown.lt hb; omega⟩, h5, (u2.trans u24).trans u5⟩
    rintro σ w6 ⟨so6, ⟨ρ, rfl⟩, own6, hfr6, h6, u6⟩
    refine n_then ?_
    have hlen6 : (if (!laid && elt e f) then out ++ [e] else out).length = i + (if (laid || elt e f) then 1 else 0) := by
      cases laid with
      | true => simpa using hlo
      | false =>
        cases hef : elt e f with
        | true => simp at hlo ⊢; omega
        | false => simp at hlo ⊢; omega
    generalize (if (!laid && elt e f) then out ++ [e] else out) = out6 at own6 hlen6 hps
    have hl6 : out6.length ≤ i + 1 := by rw [hlen6]; split <;> omega
    have s6 := u6.size
    (repeat (first | refine swp_seq ?_ | refine swp_block ?_)); refine swp_region (by kernel_rfl) ?_
    repeat (first | refine x_move (by rfl) ?_ | refine x_as (by rfl) (by rfl) ?_ | refine x_skip (by rfl) ?_ | refine x_fld (by rfl) (by rfl) FldO.h ?_ | refine x_nilck (by rfl) (by rfl) ?_ | refine x_len (by rfl) (by rfl) ElOf.some ?_ | refine x_ext (by rfl) (by rfl) (by rfl) ?_ | refine x_pickT (by rfl) (by rfl) (by rfl) ?_ | refine x_pickF (by rfl) (by rfl) (by rfl) ?_ | refine x_add (by rfl) (by rfl) (by rfl) (by omega) ?_ | refine x_sub (by rfl) (by rfl) (by rfl) (by omega) ?_ | refine x_not (by rfl) (by rfl) ?_)
    refine w_load (by rfl) (by rfl) (load_agg (xs := f.cells) AggT.h h6 (by rfl) (by rfl)) ?_
    refine w_bslice (e := 30) (cs := f.cells) (by rfl) (by rfl) (by rfl) (by kernel_rfl) ?_
    intro b7 w7 e7 u7 h7
    refine w_append (more := []) (news := f.cells) (by rfl) (by rfl) (by rfl) (by rfl) SlC.h (own6.at u7) (by rw [List.append_nil]; exact h7) (by rfl) (by rfl) (by omega) (room88 (by omega)) ?_
    intro so8 w8 own8 u8 hin8
    repeat (first | refine x_move (by rfl) ?_ | refine x_as (by rfl) (by rfl) ?_ | refine x_skip (by rfl) ?_ | refine x_fld (by rfl) (by rfl) FldO.h ?_ | refine x_nilck (by rfl) (by rfl) ?_ | refine x_len (by rfl) (by rfl) ElOf.some ?_ | refine x_ext (by rfl) (by rfl) (by rfl) ?_ | refine x_pickT (by rfl) (by rfl) (by rfl) ?_ | refine x_pickF (by rfl) (by rfl) (by rfl) ?_ | refine x_add (by rfl) (by rfl) (by rfl) (by omega) ?_ | refine x_sub (by rfl) (by rfl) (by rfl) (by omega) ?_ | refine x_not (by rfl) (by rfl) ?_)
    refine x_nilw ?_
    (repeat (first | with_reducible refine n_then ?_ | with_reducible refine n_block ?_ | with_reducible refine n_jump ?_))
    (repeat (first | refine swp_seq ?_ | refine swp_block ?_)); refine swp_region (by kernel_rfl) ?_
    repeat (first | refine x_move (by rfl) ?_ | refine x_as (by rfl) (by rfl) ?_ | refine x_skip (by rfl) ?_ | refine x_fld (by rfl) (by rfl) FldO.h ?_ | refine x_nilck (by rfl) (by rfl) ?_ | refine x_len (by rfl) (by rfl) ElOf.some ?_ | refine x_ext (by rfl) (by rfl) (by rfl) ?_ | refine x_pickT (by rfl) (by rfl) (by rfl) ?_ | refine x_pickF (by rfl) (by rfl) (by rfl) ?_ | refine x_add (by rfl) (by rfl) (by rfl) (by omega) ?_ | refine x_sub (by rfl) (by rfl) (by rfl) (by omega) ?_ | refine x_not (by rfl) (by rfl) ?_)
    refine x_nilw ?_
    have s7 := u7.size
    refine ⟨(i + 1, (laid || elt e f), out6 ++ [f]), ⟨so8, at_ ⟨rfl, rfl, rfl, rfl, rfl, trivial⟩, by dsimp only; omega, fun y hy => ?_, hps, ?_, ?_, fun b hb => (hin8 b hb).elim (fun h => (hfr6 b h).1) fun h => by omega, (u6.trans u7).trans' u8 fun b hb hf => by have := (hfr6 b hf).1; omega⟩, by dsimp only; omega⟩
    · rw [take_succ' hf] at hy
      rcases List.mem_append.1 hy with hy | hy
      · exact hno y hy
      · obtain rfl := List.mem_singleton.1 hy
        exact c4
    · simp only [List.length_append, List.length_singleton]
      omega
    · simp only [List.length_append, List.length_singleton]
      rw [fl_append, fl_one]
      exact own8
  · have hin : i = g.S.length := by omega
    subst hin
    rw [List.take_length] at hno
    rw [List.drop_length] at hp
    have hnm : e.nm ∉ g.S.map Ev.nm := fun hm => by obtain ⟨y, hy, he⟩ := List.mem_map.1 hm; exact hno y hy he
    refine swp_exit ?_; (repeat (first | with_reducible refine e_then ?_ | with_reducible refine e_jump ?_)); refine e_block ?_; (repeat (first | with_reducible refine n_then ?_ | with_reducible refine n_block ?_ | with_reducible refine n_jump ?_))
    (repeat (first | refine swp_seq ?_ | refine swp_block ?_)); refine swp_draw (Ext w2) [] Mixed.h (by kernel_rfl) (by kernel_rfl) (ext_drew w2) ?_
    repeat (first | refine x_move (by rfl) ?_ | refine x_as (by rfl) (by rfl) ?_ | refine x_skip (by rfl) ?_ | refine x_fld (by rfl) (by rfl) FldO.h ?_ | refine x_nilck (by rfl) (by rfl) ?_ | refine x_len (by rfl) (by rfl) ElOf.some ?_ | refine x_ext (by rfl) (by rfl) (by rfl) ?_ | refine x_pickT (by rfl) (by rfl) (by rfl) ?_ | refine x_pickF (by rfl) (by rfl) (by rfl) ?_ | refine x_add (by rfl) (by rfl) (by rfl) (by omega) ?_ | refine x_sub (by rfl) (by rfl) (by rfl) (by omega) ?_ | refine x_not (by rfl) (by rfl) ?_)
    refine q_load (by rfl) (by rfl) (by rfl) (fun w' hw' => load_one OneT.h (g2.blk.at hw') (by rfl)) ?_
    repeat (first | refine x_move (by rfl) ?_ | refine x_as (by rfl) (by rfl) ?_ | refine x_skip (by rfl) ?_ | refine x_fld (by rfl) (by rfl) FldO.h ?_ | refine x_nilck (by rfl) (by rfl) ?_ | refine x_len (by rfl) (by rfl) ElOf.some ?_ | refine x_ext (by rfl) (by rfl) (by rfl) ?_ | refine x_pickT (by rfl) (by rfl) (by rfl) ?_ | refine x_pickF (by rfl) (by rfl) (by rfl) ?_ | refine x_add (by rfl) (by rfl) (by rfl) (by omega) ?_ | refine x_sub (by rfl) (by rfl) (by rfl) (by omega) ?_ | refine x_not (by rfl) (by rfl) ?_)
    refine q_load (v := .int .i64 g.cap) (by rfl) (by rfl) (by rfl) (fun w' hw' => load_one OneT.h (g2.blk.at hw') (by rfl)) ?_
    refine x_geq (by rfl) (by rfl) (by rfl) ?_
    refine x_nil fun w3 u3 => ?_
    (repeat (first | refine swp_seq ?_ | refine swp_block ?_))
    have hlc := ok.len
    refine swp_if (by rfl) (fun c5 => ?_) (fun c5 => swp_skip ?_)
    · (repeat (first | refine swp_seq ?_ | refine swp_block ?_)); refine swp_region (by kernel_rfl) ?_
      repeat (first | refine x_move (by rfl) ?_ | refine x_as (by rfl) (by rfl) ?_ | refine x_skip (by rfl) ?_ | refine x_fld (by rfl) (by rfl) FldO.h ?_ | refine x_nilck (by rfl) (by rfl) ?_ | refine x_len (by rfl) (by rfl) ElOf.some ?_ | refine x_ext (by rfl) (by rfl) (by rfl) ?_ | refine x_pickT (by rfl) (by rfl) (by rfl) ?_ | refine x_pickF (by rfl) (by rfl) (by rfl) ?_ | refine x_add (by rfl) (by rfl) (by rfl) (by omega) ?_ | refine x_sub (by rfl) (by rfl) (by rfl) (by omega) ?_ | refine x_not (by rfl) (by rfl) ?_)
      refine x_nilw ?_
      refine swp_ret ?_; (repeat (first | with_reducible refine r_then ?_ | with_reducible refine r_block ?_ | with_reducible refine r_jump ?_))
      exact post1 rfl rfl ⟨_, rfl, same 104 w3 (by unfold GS.pcode; rw [c1, if_neg (by decide), if_neg (by simp [c2]), if_neg c3, if_neg hnm, if_pos (by omega)]) (by omega) (u01.trans (u2.trans u3))⟩
    have hp0 : g.pcode e = 0 := by unfold GS.pcode; rw [c1, if_neg (by decide), if_neg (by simp [c2]), if_neg c3, if_neg hnm, if_neg (by omega)]
    (repeat (first | with_reducible refine n_then ?_ | with_reducible refine n_block ?_ | with_reducible refine n_jump ?_))
    refine swp_fit [(0, .pointer (some ⟨bm, 0, none⟩)), (3, .pointer (some ⟨b0, 0, none⟩)), (5, so), (6, .bool laid)] ⟨rfl, rfl, rfl, rfl, trivial⟩ fun ρ => ?_
    have u23 := u2.trans u3
    have s23 := u23.size
    (repeat (first | refine swp_seq ?_ | refine swp_block ?_)); refine swp_region (by kernel_rfl) ?_
    repeat (first | refine x_move (by rfl) ?_ | refine x_as (by rfl) (by rfl) ?_ | refine x_skip (by rfl) ?_ | refine x_fld (by rfl) (by rfl) FldO.h ?_ | refine x_nilck (by rfl) (by rfl) ?_ | refine x_len (by rfl) (by rfl) ElOf.some ?_ | refine x_ext (by rfl) (by rfl) (by rfl) ?_ | refine x_pickT (by rfl) (by rfl) (by rfl) ?_ | refine x_pickF (by rfl) (by rfl) (by rfl) ?_ | refine x_add (by rfl) (by rfl) (by rfl) (by omega) ?_ | refine x_sub (by rfl) (by rfl) (by rfl) (by omega) ?_ | refine x_not (by rfl) (by rfl) ?_)
    refine x_nilw ?_
    refine PEv.swp_cutQ (fun σ w6 => ∃ so6, At σ [(0, .pointer (some ⟨bm, 0, none⟩)), (3, .pointer (some ⟨b0, 0, none⟩)), (5, so6)] ∧ Own w6 30 11 so6 (put elt g.S e).length (fl Ev.cells (put elt g.S e)) ∧ (∀ b, isIn so6 b → w1.heap.size ≤ b) ∧ Ext w1 w6) ?_ ?_
    · cases laid with
      | true =>
        refine swp_false (by rfl) (swp_skip ?_)
        simp only [toCome, if_true, List.append_nil] at hp
        rw [← hp]
        exact ⟨rfl, so, at_ ⟨rfl, rfl, rfl, trivial⟩, hown.at u3, hfr, u23⟩
      | false =>
        refine swp_true (by rfl) ?_
        simp only [toCome, put, Bool.false_eq_true, if_false, Nat.add_zero] at hp hlo
        rw [← hp]
        (repeat (first | refine swp_seq ?_ | refine swp_block ?_)); refine swp_region (by kernel_rfl) ?_
        repeat (first | refine x_move (by rfl) ?_ | refine x_as (by rfl) (by rfl) ?_ | refine x_skip (by rfl) ?_ | refine x_fld (by rfl) (by rfl) FldO.h ?_ | refine x_nilck (by rfl) (by rfl) ?_ | refine x_len (by rfl) (by rfl) ElOf.some ?_ | refine x_ext (by rfl) (by rfl) (by rfl) ?_ | refine x_pickT (by rfl) (by rfl) (by rfl) ?_ | refine x_pickF (by rfl) (by rfl) (by rfl) ?_ | refine x_add (by rfl) (by rfl) (by rfl) (by omega) ?_ | refine x_sub (by rfl) (by rfl) (by rfl) (by omega) ?_ | refine x_not (by rfl) (by rfl) ?_)
        refine w_load (by rfl) (by rfl) (load_agg (xs := e.cells) AggT.h (hb0.at u23) (by rfl) (by rfl)) ?_
        refine w_bslice (e := 30) (cs := e.cells) (by rfl) (by rfl) (by rfl) (by kernel_rfl) ?_
        intro b6 w6 e6 u6 h6
        refine w_append (more := []) (news := e.cells) (by rfl) (by rfl) (by rfl) (by rfl) SlC.h ((hown.at u3).at u6) (by rw [List.append_nil]; exact h6) (by rfl) (by rfl) (by omega) (room88 (by omega)) ?_
        intro so7 w7 own7 u7 hin7
        repeat (first | refine x_move (by rfl) ?_ | refine x_as (by rfl) (by rfl) ?_ | refine x_skip (by rfl) ?_ | refine x_fld (by rfl) (by rfl) FldO.h ?_ | refine x_nilck (by rfl) (by rfl) ?_ | refine x_len (by rfl) (by rfl) ElOf.some ?_ | refine x_ext (by rfl) (by rfl) (by rfl) ?_ | refine x_pickT (by rfl) (by rfl) (by rfl) ?_ | refine x_pickF (by rfl) (by rfl) (by rfl) ?_ | refine x_add (by rfl) (by rfl) (by rfl) (by omega) ?_ | refine x_sub (by rfl) (by rfl) (by rfl) (by omega) ?_ | refine x_not (by rfl) (by rfl) ?_)
        refine x_nilw ?_
        have s6 := u6.size
        refine ⟨rfl, so7, at_ ⟨rfl, rfl, rfl, trivial⟩, ?_, fun b hb => (hin7 b hb).elim (hfr b) fun h => by omega, (u23.trans u6).trans' u7 fun b hb hf => by have := hfr b hf; omega⟩
        rw [fl_append, fl_one, List.length_append]
        exact own7
    rintro σ w6 ⟨so6, ⟨ρ, rfl⟩, own6, hfr6, u6⟩
    refine n_then ?_
    obtain ⟨ra, rc, rfl⟩ := own6.slice
    have s6 := u6.size
    (repeat (first | refine swp_seq ?_ | refine swp_block ?_)); refine swp_region (by kernel_rfl) ?_
    repeat (first | refine x_move (by rfl) ?_ | refine x_as (by rfl) (by rfl) ?_ | refine x_skip (by rfl) ?_ | refine x_fld (by rfl) (by rfl) FldO.h ?_ | refine x_nilck (by rfl) (by rfl) ?_ | refine x_len (by rfl) (by rfl) ElOf.some ?_ | refine x_ext (by rfl) (by rfl) (by rfl) ?_ | refine x_pickT (by rfl) (by rfl) (by rfl) ?_ | refine x_pickF (by rfl) (by rfl) (by rfl) ?_ | refine x_add (by rfl) (by rfl) (by rfl) (by omega) ?_ | refine x_sub (by rfl) (by rfl) (by rfl) (by omega) ?_ | refine x_not (by rfl) (by rfl) ?_)
    refine w_store (xs := [.slice ra (put elt g.S e).length rc]) (by rfl) (by rfl) (by rfl) (by rfl) SzT.h (by rfl) (by rfl) (h.at (u01.trans u6)).blk (by simp) ?_
    intro w7 u7 h7 _
    refine x_nilw ?_
    (repeat (first | refine swp_seq ?_ | refine swp_block ?_)); refine swp_region (by kernel_rfl) ?_
    repeat (first | refine x_move (by rfl) ?_ | refine x_as (by rfl) (by rfl) ?_ | refine x_skip (by rfl) ?_ | refine x_fld (by rfl) (by rfl) FldO.h ?_ | refine x_nilck (by rfl) (by rfl) ?_ | refine x_len (by rfl) (by rfl) ElOf.some ?_ | refine x_ext (by rfl) (by rfl) (by rfl) ?_ | refine x_pickT (by rfl) (by rfl) (by rfl) ?_ | refine x_pickF (by rfl) (by rfl) (by rfl) ?_ | refine x_add (by rfl) (by rfl) (by rfl) (by omega) ?_ | refine x_sub (by rfl) (by rfl) (by rfl) (by omega) ?_ | refine x_not (by rfl) (by rfl) ?_)
    refine x_nilw ?_
    refine swp_ret ?_; (repeat (first | with_reducible refine r_then ?_ | with_reducible refine r_block ?_ | with_reducible refine r_jump ?_))
    have s7 := u7.size
    refine post1 rfl rfl ⟨_, rfl, by rw [hp0]; rfl, .slice ra (put elt g.S e).length rc, ?_, ((u01.trans u6).of _).trans u7, fun b hb => ?_⟩
    · unfold GS.push
      rw [if_pos hp0]
      exact ⟨h7, own6.rd.get u7 fun b hb e => by have := hfr6 b hb; omega, fun b hb => ⟨by have := hfr6 b hb; omega, by have := own6.lt hb; omega⟩⟩
    · rcases hb with hb | hb
      · exact .inl (.inl hb)
      · exact .inr (by have := hfr6 b hb; omega)
end Go.Proofs.Ytnhecopgecoloaa
