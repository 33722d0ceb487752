/- A gate: what is let through; Advance, Flush. No conditions. -/
import Derived.Test.YtnhecopgecoloaaGb
namespace Go.Proofs.Ytnhecopgecoloaa
open Hp Sx

theorem thr_lft {m : Int} : ∀ {S : List Ev} {i : Nat}, i ≤ S.length → (∀ j x, j < i → S[j]? = some x → x.ts ≤ m) → (∀ x, S[i]? = some x → ¬ x.ts ≤ m) → thr m S = S.take i ∧ lft m S = S.drop i
  | [], i, hi, _, _ => by
    have : i = 0 := by simpa using hi
    subst this
    exact ⟨rfl, rfl⟩
  | x :: S, 0, _, _, h => by
    have := h x rfl
    simp [thr, lft, this]
  | x :: S, i + 1, hi, h1, h2 => by
    have hx := h1 0 x (by omega) rfl
    obtain ⟨e1, e2⟩ := thr_lft (m := m) (S := S) (i := i) (by simpa using hi) (fun j y hj hy => h1 (j + 1) y (by omega) hy) h2
    refine ⟨?_, ?_⟩
    · simp only [thr] at e1 ⊢
      simp [hx, e1]
    · simp only [lft] at e2 ⊢
      simp [hx, e2]
theorem elt_ts {a x : Ev} (h : elt a x = true) : a.ts ≤ x.ts := by
  refine Decidable.byContradiction fun hc => ?_
  have h1 : ¬ a.ts < x.ts := by omega
  have h2 : ¬ a.ts = x.ts := by omega
  simp [elt, nlt, Ev.nm, h1, h2] at h
theorem lft_gt {m : Int} {S : List Ev} (h : Rising elt S) : ∀ x ∈ lft m S, m < x.ts := by
  induction S with
  | nil => intro x hx; simp [lft] at hx
  | cons a S ih =>
    intro x hx
    obtain ⟨h1, h2⟩ := List.pairwise_cons.1 h
    by_cases ha : a.ts ≤ m
    · exact ih h2 x (by simpa [lft, ha] using hx)
    · have hx' : x ∈ a :: S := by simpa [lft, ha] using hx
      rcases List.mem_cons.1 hx' with rfl | hx'
      · omega
      · have := elt_ts (h1 x hx')
        omega
theorem lft_sub (m : Int) (S : List Ev) : (lft m S).Sublist S := List.dropWhile_sublist _
theorem thr_le {m : Int} : ∀ {S : List Ev}, ∀ x ∈ thr m S, x.ts ≤ m
  | [], x, hx => by simp [thr] at hx
  | a :: S, x, hx => by
    by_cases ha : a.ts ≤ m
    · simp only [thr, List.takeWhile_cons, ha, decide_true, if_true, List.mem_cons] at hx
      rcases hx with rfl | hx
      · exact ha
      · exact thr_le x hx
    · simp [thr, ha] at hx
theorem thr_app (m : Int) (S : List Ev) : thr m S ++ lft m S = S := List.takeWhile_append_dropWhile
theorem thr_all {m : Int} {S : List Ev} (h : ∀ x ∈ S, x.ts ≤ m) : thr m S = S ∧ lft m S = [] := by
  have := thr_lft (m := m) (S := S) (i := S.length) (Nat.le_refl _) (fun j x _ hx => h x (List.mem_of_getElem? hx)) (fun x hx => by simp at hx)
  simpa using this
theorem GS.acode_ok {g : GS} {m : Int} (h : g.acode m = 0) : g.shut = false ∧ rng m = true ∧ g.mark ≤ m := by
  unfold GS.acode at h
  split at h
  · omega
  · next h1 =>
    split at h
    · omega
    · next h2 =>
      split at h
      · omega
      · next h3 => exact ⟨by simpa using h1, by simpa using h2, by omega⟩
theorem rng_iff {t : Int} : rng t = true ↔ minT ≤ t ∧ t ≤ maxT := by simp [rng]
theorem GS.adv_ok {g : GS} (h : g.Ok) (m : Int) : (g.adv m).Ok := by
  unfold GS.adv
  split
  · next hc =>
    obtain ⟨h1, h2, h3⟩ := GS.acode_ok hc
    have hr := rng_iff.1 h2
    refine ⟨List.Pairwise.sublist (lft_sub m g.S) h.ris, ?_, h.cap, h.cap1, fun x hx => ⟨lft_gt h.ris x hx, (h.ts x ((lft_sub m g.S).subset hx)).2⟩, ?_⟩
    · have h4 := (lft_sub m g.S).length_le
      have := h.len
      show ((lft m g.S).length : Int) ≤ g.cap
      omega
    · show noM ≤ m ∧ m ≤ maxT
      unfold noM
      unfold minT at hr
      omega
  · exact h
theorem GS.flush_ok {g : GS} (h : g.Ok) : (g.flush).Ok := by
  unfold GS.flush
  split
  · exact h
  · refine ⟨List.Pairwise.nil, ?_, h.cap, h.cap1, fun x hx => by simp at hx, by simp [noM, maxT]⟩
    show ((([] : List Ev).length : Nat) : Int) ≤ g.cap
    have := h.cap1
    simp
    omega
theorem erase_perm {β : Type} : ∀ {L : List β} {j : Nat} {x : β}, L[j]? = some x → L.Perm (x :: L.eraseIdx j)
  | [], _, _, h => by simp at h
  | a :: L, 0, x, h => by
    obtain rfl : a = x := by simpa using h
    exact List.Perm.refl _
  | a :: L, j + 1, x, h => (List.Perm.cons a (erase_perm (L := L) (j := j) (x := x) (by simpa using h))).trans (List.Perm.swap x a _)
theorem Nms.del {L : List (Nm × Value × Nat)} {clock : Nat} {S : List Ev} {e : Ev} (h : Nms L clock (e :: S)) {j : Nat} {x : Nm × Value × Nat} (hj : L[j]? = some x) (hx : x.1 = e.nm) : Nms (L.eraseIdx j) clock S := by
  refine ⟨?_, fun y hy => h.vals y ((List.eraseIdx_sublist L j).subset hy)⟩
  have h1 := ((erase_perm hj).map (·.1)).symm.trans h.keys
  simp only [List.map_cons, hx] at h1
  exact h1.cons_inv

set_option maxHeartbeats 1000000 in
set_option maxRecDepth 100000 in
theorem through {w : World} {bg r bp : Nat} {sp : Value} {g : GS} {N : Nat} (m : Int) (h : Gt w bg r bp sp g N) (hl : g.S.length ≤ 4096) : Gets Try.prog 39 [.pointer (some ⟨bg, 0, none⟩), .int .i64 m] w fun v w' =>
    (Own w' 30 11 v (thr m g.S).length (fl Ev.cells (thr m g.S)) ∧ (∀ b, isIn v b → w.heap.size ≤ b) ∧ ∃ sp', Gt w' bg r bp sp' { g with S := lft m g.S } N ∧ Upd (gfoot bg r bp sp) w w' ∧ ∀ b, gfoot bg r bp sp' b → gfoot bg r bp sp b) := by
  have hlt : ∀ b, gfoot bg r bp sp b → b < w.heap.size := fun b hb => h.lt hb
  refine ⟨GoFn.h, calls_of_swp 40 Try.func39 Try.ntmps39 rfl (Nat.le_of_ble_eq_true rfl) ?_⟩
  (repeat (first | refine swp_seq ?_ | refine swp_block ?_)); refine swp_region (by kernel_rfl) ?_
  repeat (first | refine x_move (by rfl) ?_ | refine x_as (by rfl) (by rfl) ?_ | refine x_skip (by rfl) ?_ | refine x_fld (by rfl) (by rfl) FldO.h ?_ | refine x_nilck (by rfl) (by rfl) ?_ | refine x_len (by rfl) (by rfl) ElOf.some ?_ | refine x_ext (by rfl) (by rfl) (by rfl) ?_ | refine x_pickT (by rfl) (by rfl) (by rfl) ?_ | refine x_pickF (by rfl) (by rfl) (by rfl) ?_ | refine x_add (by rfl) (by rfl) (by rfl) (by omega) ?_ | refine x_sub (by rfl) (by rfl) (by rfl) (by omega) ?_ | refine x_not (by rfl) (by rfl) ?_)
  refine x_nilw ?_
  (repeat (first | refine swp_seq ?_ | refine swp_block ?_)); refine swp_region (by kernel_rfl) ?_
  repeat (first | refine x_move (by rfl) ?_ | refine x_as (by rfl) (by rfl) ?_ | refine x_skip (by rfl) ?_ | refine x_fld (by rfl) (by rfl) FldO.h ?_ | refine x_nilck (by rfl) (by rfl) ?_ | refine x_len (by rfl) (by rfl) ElOf.some ?_ | refine x_ext (by rfl) (by rfl) (by rfl) ?_ | refine x_pickT (by rfl) (by rfl) (by rfl) ?_ | refine x_pickF (by rfl) (by rfl) (by rfl) ?_ | refine x_add (by rfl) (by rfl) (by rfl) (by omega) ?_ | refine x_sub (by rfl) (by rfl) (by rfl) (by omega) ?_ | refine x_not (by rfl) (by rfl) ?_)
  refine x_nilw ?_
  (repeat (first | refine swp_seq ?_ | refine swp_block ?_))
  refine swp_loop (fun (i : Nat) σ w1 => ∃ out sp1, At σ [(0, .pointer (some ⟨bg, 0, none⟩)), (1, .int .i64 m), (5, out)] ∧ i ≤ g.S.length ∧ (∀ j x, j < i → g.S[j]? = some x → x.ts ≤ m) ∧ Own w1 30 11 out i (fl Ev.cells (g.S.take i)) ∧ (∀ b, isIn out b → w.heap.size ≤ b) ∧ Gt w1 bg r bp sp1 { g with S := g.S.drop i } N ∧ Upd (gfoot bg r bp sp) w w1 ∧ ∀ b, gfoot bg r bp sp1 b → gfoot bg r bp sp b) (fun i => g.S.length - i) 0 ⟨.slice none 0 0, sp, at_ ⟨rfl, rfl, rfl, trivial⟩, by omega, fun j x hj => absurd hj (by omega), Own.nil _ _ _, fun b hb => hb.elim, h, Upd.refl _ _, fun b hb => hb⟩ ?_
  rintro i σ w1 ⟨out, sp1, ⟨ρ, rfl⟩, hi, hle, own1, hfr, g1, u1, hf1⟩
  have s1 := u1.size
  (repeat (first | refine swp_seq ?_ | refine swp_block ?_)); refine swp_region (by kernel_rfl) ?_
  repeat (first | refine x_move (by rfl) ?_ | refine x_as (by rfl) (by rfl) ?_ | refine x_skip (by rfl) ?_ | refine x_fld (by rfl) (by rfl) FldO.h ?_ | refine x_nilck (by rfl) (by rfl) ?_ | refine x_len (by rfl) (by rfl) ElOf.some ?_ | refine x_ext (by rfl) (by rfl) (by rfl) ?_ | refine x_pickT (by rfl) (by rfl) (by rfl) ?_ | refine x_pickF (by rfl) (by rfl) (by rfl) ?_ | refine x_add (by rfl) (by rfl) (by rfl) (by omega) ?_ | refine x_sub (by rfl) (by rfl) (by rfl) (by omega) ?_ | refine x_not (by rfl) (by rfl) ?_)
  refine w_load (by rfl) (by rfl) (load_one OneT.h g1.blk (by rfl)) ?_
  refine w_call (by rfl) (by rfl) (by rfl) (PEv.peek elt_ord g1.pile) ?_
  rintro _ w2 ⟨rfl, u2⟩
  have s2 := u2.size
  have fin : ∀ (w' : World), Ext w1 w' → (∀ x, g.S[i]? = some x → ¬ x.ts ≤ m) → Own w' 30 11 out (thr m g.S).length (fl Ev.cells (thr m g.S)) ∧ (∀ b, isIn out b → w.heap.size ≤ b) ∧ ∃ sp', Gt w' bg r bp sp' { g with S := lft m g.S } N ∧ Upd (gfoot bg r bp sp) w w' ∧ ∀ b, gfoot bg r bp sp' b → gfoot bg r bp sp b := fun w' u' hx => by
    obtain ⟨e1, e2⟩ := thr_lft hi hle hx
    rw [e1, e2]
    refine ⟨?_, hfr, sp1, g1.at u', u1.ext u', hf1⟩
    rw [List.length_take, Nat.min_eq_left hi]
    exact own1.at u'
  by_cases hi' : i < g.S.length
  · obtain ⟨x, hx⟩ := nthE hi'
    have hdrop : g.S.drop i = x :: g.S.drop (i + 1) := drop_cons' hx
    rw [hdrop] at g1 ⊢
    rw [show PEv.popV (x :: g.S.drop (i + 1)) = .tuple #[x.v, .bool true] from rfl]
    repeat (first | refine x_move (by rfl) ?_ | refine x_as (by rfl) (by rfl) ?_ | refine x_skip (by rfl) ?_ | refine x_fld (by rfl) (by rfl) FldO.h ?_ | refine x_nilck (by rfl) (by rfl) ?_ | refine x_len (by rfl) (by rfl) ElOf.some ?_ | refine x_ext (by rfl) (by rfl) (by rfl) ?_ | refine x_pickT (by rfl) (by rfl) (by rfl) ?_ | refine x_pickF (by rfl) (by rfl) (by rfl) ?_ | refine x_add (by rfl) (by rfl) (by rfl) (by omega) ?_ | refine x_sub (by rfl) (by rfl) (by rfl) (by omega) ?_ | refine x_not (by rfl) (by rfl) ?_)
    refine w_alloc (by rfl) (by rfl) ZeroT.h ?_; intro b3 w3 e3 u3 h3
    refine w_store (xs := x.cells) (by rfl) (by rfl) (by rfl) (by rfl) SzT.h (by rfl) (by rfl) h3 (by simp) ?_
    intro w4 u4 h4 _
    repeat (first | refine x_move (by rfl) ?_ | refine x_as (by rfl) (by rfl) ?_ | refine x_skip (by rfl) ?_ | refine x_fld (by rfl) (by rfl) FldO.h ?_ | refine x_nilck (by rfl) (by rfl) ?_ | refine x_len (by rfl) (by rfl) ElOf.some ?_ | refine x_ext (by rfl) (by rfl) (by rfl) ?_ | refine x_pickT (by rfl) (by rfl) (by rfl) ?_ | refine x_pickF (by rfl) (by rfl) (by rfl) ?_ | refine x_add (by rfl) (by rfl) (by rfl) (by omega) ?_ | refine x_sub (by rfl) (by rfl) (by rfl) (by omega) ?_ | refine x_not (by rfl) (by rfl) ?_)
    refine x_nilw ?_
    replace h4 : Blk w4 b3 30 x.cells := h4
    have s3 := u3.size; have s4 := u4.size
    have u14 : Ext w1 w4 := (u2.trans u3).trans' u4 fun b hb e => by have e' : b = b3 := e; omega
    (repeat (first | refine swp_seq ?_ | refine swp_block ?_)); refine swp_region (by kernel_rfl) ?_
    repeat (first | refine x_move (by rfl) ?_ | refine x_as (by rfl) (by rfl) ?_ | refine x_skip (by rfl) ?_ | refine x_fld (by rfl) (by rfl) FldO.h ?_ | refine x_nilck (by rfl) (by rfl) ?_ | refine x_len (by rfl) (by rfl) ElOf.some ?_ | refine x_ext (by rfl) (by rfl) (by rfl) ?_ | refine x_pickT (by rfl) (by rfl) (by rfl) ?_ | refine x_pickF (by rfl) (by rfl) (by rfl) ?_ | refine x_add (by rfl) (by rfl) (by rfl) (by omega) ?_ | refine x_sub (by rfl) (by rfl) (by rfl) (by omega) ?_ | refine x_not (by rfl) (by rfl) ?_)
    refine w_load (v := .int .i64 x.ts) (by rfl) (by rfl) (load_one OneT.h h4 (by rfl)) ?_
    repeat (first | refine x_move (by rfl) ?_ | refine x_as (by rfl) (by rfl) ?_ | refine x_skip (by rfl) ?_ | refine x_fld (by rfl) (by rfl) FldO.h ?_ | refine x_nilck (by rfl) (by rfl) ?_ | refine x_len (by rfl) (by rfl) ElOf.some ?_ | refine x_ext (by rfl) (by rfl) (by rfl) ?_ | refine x_pickT (by rfl) (by rfl) (by rfl) ?_ | refine x_pickF (by rfl) (by rfl) (by rfl) ?_ | refine x_add (by rfl) (by rfl) (by rfl) (by omega) ?_ | refine x_sub (by rfl) (by rfl) (by rfl) (by omega) ?_ | refine x_not (by rfl) (by rfl) ?_)
    by_cases hts : x.ts ≤ m
    · refine x_gtrF (by rfl) (by rfl) (by rfl) (by omega) ?_
      repeat (first | refine x_move (by rfl) ?_ | refine x_as (by rfl) (by rfl) ?_ | refine x_skip (by rfl) ?_ | refine x_fld (by rfl) (by rfl) FldO.h ?_ | refine x_nilck (by rfl) (by rfl) ?_ | refine x_len (by rfl) (by rfl) ElOf.some ?_ | refine x_ext (by rfl) (by rfl) (by rfl) ?_ | refine x_pickT (by rfl) (by rfl) (by rfl) ?_ | refine x_pickF (by rfl) (by rfl) (by rfl) ?_ | refine x_add (by rfl) (by rfl) (by rfl) (by omega) ?_ | refine x_sub (by rfl) (by rfl) (by rfl) (by omega) ?_ | refine x_not (by rfl) (by rfl) ?_)
      refine x_nilw ?_
      (repeat (first | refine swp_seq ?_ | refine swp_block ?_))
      refine swp_false (by rfl) (swp_skip ?_)
      (repeat (first | with_reducible refine n_then ?_ | with_reducible refine n_block ?_ | with_reducible refine n_jump ?_))
      have g4 := g1.at u14
      refine swp_fit [(0, .pointer (some ⟨bg, 0, none⟩)), (1, .int .i64 m), (5, out), (6, .pointer (some ⟨b3, 0, none⟩))] ⟨rfl, rfl, rfl, rfl, trivial⟩ fun ρ => ?_
      (repeat (first | refine swp_seq ?_ | refine swp_block ?_)); refine swp_region (by kernel_rfl) ?_
      repeat (first | refine x_move (by rfl) ?_ | refine x_as (by rfl) (by rfl) ?_ | refine x_skip (by rfl) ?_ | refine x_fld (by rfl) (by rfl) FldO.h ?_ | refine x_nilck (by rfl) (by rfl) ?_ | refine x_len (by rfl) (by rfl) ElOf.some ?_ | refine x_ext (by rfl) (by rfl) (by rfl) ?_ | refine x_pickT (by rfl) (by rfl) (by rfl) ?_ | refine x_pickF (by rfl) (by rfl) (by rfl) ?_ | refine x_add (by rfl) (by rfl) (by rfl) (by omega) ?_ | refine x_sub (by rfl) (by rfl) (by rfl) (by omega) ?_ | refine x_not (by rfl) (by rfl) ?_)
      refine w_load (by rfl) (by rfl) (load_one OneT.h g4.blk (by rfl)) ?_
      refine w_call (by rfl) (by rfl) (by rfl) (PEv.pop elt_ord g4.pile (by have := congrArg List.length hdrop; simp at this; simp; omega)) ?_
      rintro _ w5 ⟨rfl, sp5, hp5, u5, hin5⟩
      refine x_nilw ?_
      obtain ⟨L, clock, hm, hn⟩ := g4.map
      have s5 := u5.size
      have hfp : ∀ b, PEv.foot bp sp1 b → b < w.heap.size := fun b hb => hlt b (hf1 b (.inr (.inr hb)))
      have hm5 := hm.get u5 fun hf => (g1.d2 _ hf).2 rfl
      have h5 := h4.get u5 fun hf => by have := hfp _ hf; omega
      have hb5 := g4.blk.get u5 fun hf => (g1.d2 _ hf).1 rfl
      obtain ⟨j, y, hj, hy, hyk⟩ := hn.yes (k := x.nm) (by simp)
      (repeat (first | refine swp_seq ?_ | refine swp_block ?_)); refine swp_draw (Ext w5) [] Mixed.h (by kernel_rfl) (by kernel_rfl) (ext_drew w5) ?_
      repeat (first | refine x_move (by rfl) ?_ | refine x_as (by rfl) (by rfl) ?_ | refine x_skip (by rfl) ?_ | refine x_fld (by rfl) (by rfl) FldO.h ?_ | refine x_nilck (by rfl) (by rfl) ?_ | refine x_len (by rfl) (by rfl) ElOf.some ?_ | refine x_ext (by rfl) (by rfl) (by rfl) ?_ | refine x_pickT (by rfl) (by rfl) (by rfl) ?_ | refine x_pickF (by rfl) (by rfl) (by rfl) ?_ | refine x_add (by rfl) (by rfl) (by rfl) (by omega) ?_ | refine x_sub (by rfl) (by rfl) (by rfl) (by omega) ?_ | refine x_not (by rfl) (by rfl) ?_)
      refine q_load (v := .map (some r)) (by rfl) (by rfl) (by rfl) (fun w' hw' => load_one OneT.h (hb5.at hw') (by rfl)) ?_
      refine q_load (by rfl) (by rfl) (by rfl) (fun w' hw' => load_agg (xs := x.cells) AggT.h (h5.at hw') (by rfl) (by rfl)) ?_
      refine q_call (v := x.nm.v) (by rfl) (by rfl) (by rfl) (fun w' hw' => (event_name x w').mono fun v w'' h => ⟨h.1, hw'.trans h.2⟩) ?_
      refine x_fix (by rfl) (by rfl) (by rfl) fun w6 u6 => ?_
      refine w_delete (by rfl) (by rfl) Try.underlying81 key_nm (by rfl) (by rfl) (hm5.at u6) ?_
      intro w7 u7 hm7
      refine x_nilw ?_
      rw [hj] at hm7
      have hn7 := hn.del hy hyk
      have s6 := u6.size; have s7 := u7.size
      have hrw : r < w.heap.size := hlt r (.inr (.inl rfl))
      have h7 := (h5.at u6).get u7 fun e => by have e' : b3 = r := e; omega
      have hin5' : ∀ b, PEv.foot bp sp5 b → PEv.foot bp sp1 b := fun b hb => hb.imp id (hin5 b)
      have g7 : Gt w7 bg r bp sp5 { g with S := g.S.drop (i + 1) } N := ⟨(hb5.at u6).get u7 h.d1, (hp5.at u6).get u7 fun b hb e => (g1.d2 b (hin5' b hb)).2 e, ⟨_, _, hm7, hn7⟩, h.d1, fun b hb => g1.d2 b (hin5' b hb)⟩
      have hf7 : ∀ b, gfoot bg r bp sp5 b → gfoot bg r bp sp b := fun b hb => hf1 b (hb.imp id (Or.imp id (hin5' b)))
      have u17 : Upd (gfoot bg r bp sp) w w7 := (((u1.ext u14).trans' u5 fun b _ hf => hf1 b (.inr (.inr hf))).ext u6).trans' u7 fun b _ e => .inr (.inl e)
      have own7 := (((own1.at u14).get u5 fun b hb hf => by have := hfp _ hf; have := hfr b hb; omega).at u6).get u7 fun b hb e => by have e' : b = r := e; have := hfr b hb; omega
      (repeat (first | refine swp_seq ?_ | refine swp_block ?_)); refine swp_region (by kernel_rfl) ?_
      repeat (first | refine x_move (by rfl) ?_ | refine x_as (by rfl) (by rfl) ?_ | refine x_skip (by rfl) ?_ | refine x_fld (by rfl) (by rfl) FldO.h ?_ | refine x_nilck (by rfl) (by rfl) ?_ | refine x_len (by rfl) (by rfl) ElOf.some ?_ | refine x_ext (by rfl) (by rfl) (by rfl) ?_ | refine x_pickT (by rfl) (by rfl) (by rfl) ?_ | refine x_pickF (by rfl) (by rfl) (by rfl) ?_ | refine x_add (by rfl) (by rfl) (by rfl) (by omega) ?_ | refine x_sub (by rfl) (by rfl) (by rfl) (by omega) ?_ | refine x_not (by rfl) (by rfl) ?_)
      refine w_load (by rfl) (by rfl) (load_agg (xs := x.cells) AggT.h h7 (by rfl) (by rfl)) ?_
      refine w_bslice (e := 30) (cs := x.cells) (by rfl) (by rfl) (by rfl) (by kernel_rfl) ?_
      intro b8 w8 e8 u8 h8
      refine w_append (more := []) (news := x.cells) (by rfl) (by rfl) (by rfl) (by rfl) SlC.h (own7.at u8) (by rw [List.append_nil]; exact h8) (by rfl) (by rfl) (by omega) (room88 (by omega)) ?_
      intro out9 w9 own9 u9 hin9
      repeat (first | refine x_move (by rfl) ?_ | refine x_as (by rfl) (by rfl) ?_ | refine x_skip (by rfl) ?_ | refine x_fld (by rfl) (by rfl) FldO.h ?_ | refine x_nilck (by rfl) (by rfl) ?_ | refine x_len (by rfl) (by rfl) ElOf.some ?_ | refine x_ext (by rfl) (by rfl) (by rfl) ?_ | refine x_pickT (by rfl) (by rfl) (by rfl) ?_ | refine x_pickF (by rfl) (by rfl) (by rfl) ?_ | refine x_add (by rfl) (by rfl) (by rfl) (by omega) ?_ | refine x_sub (by rfl) (by rfl) (by rfl) (by omega) ?_ | refine x_not (by rfl) (by rfl) ?_)
      refine x_nilw ?_
      (repeat (first | with_reducible refine n_then ?_ | with_reducible refine n_block ?_ | with_reducible refine n_jump ?_))
      have s8 := u8.size
      have s17 := u17.size
      have hfr9 : ∀ b, isIn out9 b → w.heap.size ≤ b := fun b hb => (hin9 b hb).elim (hfr b) fun h => by omega
      refine ⟨i + 1, ⟨out9, sp5, at_ ⟨rfl, rfl, rfl, trivial⟩, by omega, fun j z hj hz => ?_, ?_, hfr9, (g7.at u8).get u9 fun b hb hf => by have := hlt b (hf7 b hb); have := hfr b hf; omega, (u17.ext u8).trans' u9 fun b hb hf => by have := hfr b hf; omega, hf7⟩, by omega⟩
      · by_cases e : j = i
        · subst e
          rw [hx] at hz
          injection hz with hz
          subst hz
          exact hts
        · exact hle j z (by omega) hz
      · rw [take_succ' hx, fl_append, fl_one]
        exact own9
    · refine x_gtrT (by rfl) (by rfl) (by rfl) (by omega) ?_
      repeat (first | refine x_move (by rfl) ?_ | refine x_as (by rfl) (by rfl) ?_ | refine x_skip (by rfl) ?_ | refine x_fld (by rfl) (by rfl) FldO.h ?_ | refine x_nilck (by rfl) (by rfl) ?_ | refine x_len (by rfl) (by rfl) ElOf.some ?_ | refine x_ext (by rfl) (by rfl) (by rfl) ?_ | refine x_pickT (by rfl) (by rfl) (by rfl) ?_ | refine x_pickF (by rfl) (by rfl) (by rfl) ?_ | refine x_add (by rfl) (by rfl) (by rfl) (by omega) ?_ | refine x_sub (by rfl) (by rfl) (by rfl) (by omega) ?_ | refine x_not (by rfl) (by rfl) ?_)
      refine x_nilw ?_
      (repeat (first | refine swp_seq ?_ | refine swp_block ?_))
      refine swp_true (by rfl) ?_
      (repeat (first | refine swp_seq ?_ | refine swp_block ?_)); refine swp_region (by kernel_rfl) ?_
      repeat (first | refine x_move (by rfl) ?_ | refine x_as (by rfl) (by rfl) ?_ | refine x_skip (by rfl) ?_ | refine x_fld (by rfl) (by rfl) FldO.h ?_ | refine x_nilck (by rfl) (by rfl) ?_ | refine x_len (by rfl) (by rfl) ElOf.some ?_ | refine x_ext (by rfl) (by rfl) (by rfl) ?_ | refine x_pickT (by rfl) (by rfl) (by rfl) ?_ | refine x_pickF (by rfl) (by rfl) (by rfl) ?_ | refine x_add (by rfl) (by rfl) (by rfl) (by omega) ?_ | refine x_sub (by rfl) (by rfl) (by rfl) (by omega) ?_ | refine x_not (by rfl) (by rfl) ?_)
      refine x_nilw ?_
      refine swp_ret ?_; (repeat (first | with_reducible refine r_then ?_ | with_reducible refine r_block ?_ | with_reducible refine r_jump ?_))
      exact post1 rfl rfl ⟨_, rfl, (fin w4 u14 fun y hy => by rw [hx] at hy; injection hy with hy; subst hy; exact hts)⟩
  · have hdrop : g.S.drop i = [] := List.drop_eq_nil_of_le (by omega)
    rw [hdrop]
    rw [show PEv.popV [] = .tuple #[Ev.zero.v, .bool false] from rfl]
    repeat (first | refine x_move (by rfl) ?_ | refine x_as (by rfl) (by rfl) ?_ | refine x_skip (by rfl) ?_ | refine x_fld (by rfl) (by rfl) FldO.h ?_ | refine x_nilck (by rfl) (by rfl) ?_ | refine x_len (by rfl) (by rfl) ElOf.some ?_ | refine x_ext (by rfl) (by rfl) (by rfl) ?_ | refine x_pickT (by rfl) (by rfl) (by rfl) ?_ | refine x_pickF (by rfl) (by rfl) (by rfl) ?_ | refine x_add (by rfl) (by rfl) (by rfl) (by omega) ?_ | refine x_sub (by rfl) (by rfl) (by rfl) (by omega) ?_ | refine x_not (by rfl) (by rfl) ?_)
    refine w_alloc (by rfl) (by rfl) ZeroT.h ?_; intro b3 w3 e3 u3 h3
    refine w_store (xs := Ev.zero.cells) (by rfl) (by rfl) (by rfl) (by rfl) SzT.h (by rfl) (by rfl) h3 (by simp) ?_
    intro w4 u4 h4 _
    repeat (first | refine x_move (by rfl) ?_ | refine x_as (by rfl) (by rfl) ?_ | refine x_skip (by rfl) ?_ | refine x_fld (by rfl) (by rfl) FldO.h ?_ | refine x_nilck (by rfl) (by rfl) ?_ | refine x_len (by rfl) (by rfl) ElOf.some ?_ | refine x_ext (by rfl) (by rfl) (by rfl) ?_ | refine x_pickT (by rfl) (by rfl) (by rfl) ?_ | refine x_pickF (by rfl) (by rfl) (by rfl) ?_ | refine x_add (by rfl) (by rfl) (by rfl) (by omega) ?_ | refine x_sub (by rfl) (by rfl) (by rfl) (by omega) ?_ | refine x_not (by rfl) (by rfl) ?_)
    refine x_nilw ?_
    have s3 := u3.size
    have u14 : Ext w1 w4 := (u2.trans u3).trans' u4 fun b hb e => by have e' : b = b3 := e; omega
    (repeat (first | refine swp_seq ?_ | refine swp_block ?_)); refine swp_region (by kernel_rfl) ?_
    repeat (first | refine x_move (by rfl) ?_ | refine x_as (by rfl) (by rfl) ?_ | refine x_skip (by rfl) ?_ | refine x_fld (by rfl) (by rfl) FldO.h ?_ | refine x_nilck (by rfl) (by rfl) ?_ | refine x_len (by rfl) (by rfl) ElOf.some ?_ | refine x_ext (by rfl) (by rfl) (by rfl) ?_ | refine x_pickT (by rfl) (by rfl) (by rfl) ?_ | refine x_pickF (by rfl) (by rfl) (by rfl) ?_ | refine x_add (by rfl) (by rfl) (by rfl) (by omega) ?_ | refine x_sub (by rfl) (by rfl) (by rfl) (by omega) ?_ | refine x_not (by rfl) (by rfl) ?_)
    refine x_nilw ?_
    (repeat (first | refine swp_seq ?_ | refine swp_block ?_))
    refine swp_true (by rfl) ?_
    (repeat (first | refine swp_seq ?_ | refine swp_block ?_)); refine swp_region (by kernel_rfl) ?_
    repeat (first | refine x_move (by rfl) ?_ | refine x_as (by rfl) (by rfl) ?_ | refine x_skip (by rfl) ?_ | refine x_fld (by rfl) (by rfl) FldO.h ?_ | refine x_nilck (by rfl) (by rfl) ?_ | refine x_len (by rfl) (by rfl) ElOf.some ?_ | refine x_ext (by rfl) (by rfl) (by rfl) ?_ | refine x_pickT (by rfl) (by rfl) (by rfl) ?_ | refine x_pickF (by rfl) (by rfl) (by rfl) ?_ | refine x_add (by rfl) (by rfl) (by rfl) (by omega) ?_ | refine x_sub (by rfl) (by rfl) (by rfl) (by omega) ?_ | refine x_not (by rfl) (by rfl) ?_)
    refine x_nilw ?_
    refine swp_ret ?_; (repeat (first | with_reducible refine r_then ?_ | with_reducible refine r_block ?_ | with_reducible refine r_jump ?_))
    exact post1 rfl rfl ⟨_, rfl, (fin w4 u14 fun y hy => by have := (List.getElem?_eq_some_iff.1 hy).1; omega)⟩
end Go.Proofs.Ytnhecopgecoloaa
