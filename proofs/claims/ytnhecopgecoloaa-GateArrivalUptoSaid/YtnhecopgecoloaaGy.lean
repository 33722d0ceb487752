/- GateSorts: what the law keeps beside the gate; reason. Conditions: fewer than 2^62 events. -/
import Derived.Test.YtnhecopgecoloaaGx
namespace Go.Proofs.Ytnhecopgecoloaa
open Hp Sx

structure Tl (w : World) (bt : Nat) (av tv : Value) (A T : List Ev) (m : Int) (c : Bool) : Prop where
  blk : Blk w bt 48 [av, tv, .int .i64 m, .bool c]
  oa : Own w 30 11 av A.length (fl Ev.cells A)
  ot : Own w 30 11 tv T.length (fl Ev.cells T)
  d1 : ∀ b, isIn av b → b ≠ bt ∧ ¬ isIn tv b
  d2 : ∀ b, isIn tv b → b ≠ bt
def tfoot (bt : Nat) (av tv : Value) (b : Nat) : Prop := b = bt ∨ isIn av b ∨ isIn tv b
theorem Tl.get {F : Nat → Prop} {w w' : World} {bt : Nat} {av tv : Value} {A T : List Ev} {m : Int} {c : Bool} (h : Tl w bt av tv A T m c) (u : Upd F w w') (hn : ∀ b, tfoot bt av tv b → ¬ F b) : Tl w' bt av tv A T m c :=
  ⟨h.blk.get u (hn bt (.inl rfl)), h.oa.get u fun b hb => hn b (.inr (.inl hb)), h.ot.get u fun b hb => hn b (.inr (.inr hb)), h.d1, h.d2⟩
theorem Tl.at {w w' : World} {bt : Nat} {av tv : Value} {A T : List Ev} {m : Int} {c : Bool} (h : Tl w bt av tv A T m c) (u : Ext w w') : Tl w' bt av tv A T m c := h.get u fun _ _ h => h
theorem Tl.lt {w : World} {bt : Nat} {av tv : Value} {A T : List Ev} {m : Int} {c : Bool} (h : Tl w bt av tv A T m c) {b : Nat} (hb : tfoot bt av tv b) : b < w.heap.size := by
  rcases hb with rfl | hb | hb
  · exact h.blk.lt
  · exact h.oa.lt hb
  · exact h.ot.lt hb
/-- how the two hang together -/
structure SI (A T : List Ev) (m : Int) (c : Bool) (g : GS) : Prop where
  perm : A.Perm (T ++ g.S)
  ris : Rising elt (T ++ g.S)
  sh : g.shut = c
  cl0 : c = false → m = g.mark ∧ ∀ x ∈ T, x.ts ≤ m
  cl1 : c = true → g.S = []
theorem SI.named {A T : List Ev} {m : Int} {g : GS} (h : SI A T m false g) {e : Ev} (he : m < e.ts) : 0 < (A.filter (pN e)).length ↔ e.nm ∈ g.S.map Ev.nm := by
  obtain ⟨h1, h2⟩ := h.cl0 rfl
  rw [List.length_pos_iff_exists_mem]
  constructor
  · rintro ⟨x, hx⟩
    obtain ⟨hxA, hxe⟩ := List.mem_filter.1 hx
    have hxe' : x.nm = e.nm := of_decide_eq_true hxe
    rcases List.mem_append.1 (h.perm.mem_iff.1 hxA) with hT | hS
    · have := h2 x hT
      have : x.ts = e.ts := congrArg Nm.ts hxe'
      omega
    · exact List.mem_map.2 ⟨x, hS, hxe'⟩
  · intro hm
    obtain ⟨x, hx, hxe⟩ := List.mem_map.1 hm
    exact ⟨x, List.mem_filter.2 ⟨h.perm.mem_iff.2 (List.mem_append_right _ hx), decide_eq_true hxe⟩⟩
theorem SI.above {A T : List Ev} {m : Int} {g : GS} (h : SI A T m false g) (ok : g.Ok) : (A.filter (pU m)).length = g.S.length := by
  obtain ⟨h1, h2⟩ := h.cl0 rfl
  rw [(h.perm.filter (pU m)).length_eq, List.filter_append, List.length_append]
  rw [List.filter_eq_nil_iff.2 fun x hx => by have := h2 x hx; simp only [pU, decide_eq_true_eq]; omega, List.filter_eq_self.2 fun x hx => by have := (ok.ts x hx).1; rw [← h1] at this; exact decide_eq_true this]
  simp
/-- those that must have been let through -/
def pT (m : Int) (c : Bool) (x : Ev) : Bool := decide (x.ts ≤ m) || c
theorem SI.told {A T : List Ev} {m : Int} {c : Bool} {g : GS} (h : SI A T m c g) (ok : g.Ok) : (A.filter (pT m c)).length = T.length ∧ ∀ x ∈ A, pT m c x = true → x ∈ T := by
  cases c with
  | true =>
    have hS := h.cl1 rfl
    have hp := h.perm
    rw [hS, List.append_nil] at hp
    refine ⟨?_, fun x hx _ => hp.mem_iff.1 hx⟩
    rw [List.filter_eq_self.2 fun x _ => by simp [pT], hp.length_eq]
  | false =>
    obtain ⟨h1, h2⟩ := h.cl0 rfl
    refine ⟨?_, fun x hx hp => ?_⟩
    · rw [(h.perm.filter (pT m false)).length_eq, List.filter_append, List.length_append]
      rw [List.filter_eq_self.2 fun x hx => by simp only [pT, Bool.or_false]; exact decide_eq_true (h2 x hx), List.filter_eq_nil_iff.2 fun x hx => by have := (ok.ts x hx).1; simp only [pT, Bool.or_false, decide_eq_true_eq]; omega]
      simp
    · simp only [pT, Bool.or_false, decide_eq_true_eq] at hp
      rcases List.mem_append.1 (h.perm.mem_iff.1 hx) with hT | hS
      · exact hT
      · have := (ok.ts x hS).1; omega
theorem SI.len {A T : List Ev} {m : Int} {c : Bool} {g : GS} (h : SI A T m c g) : A.length = T.length + g.S.length := by rw [h.perm.length_eq, List.length_append]
theorem SI.push {A T : List Ev} {m : Int} {c : Bool} {g : GS} (h : SI A T m c g) (ok : g.Ok) {e : Ev} (hp : g.pcode e = 0) : SI (A ++ [e]) T m c (g.push e) := by
  obtain ⟨h1, h2, h3, h4, h5⟩ := GS.pcode_ok hp
  have hc : c = false := h.sh.symm.trans h1
  subst hc
  obtain ⟨k1, k2⟩ := h.cl0 rfl
  have hS : (g.push e).S = put elt g.S e := by unfold GS.push; rw [if_pos hp]
  have hm : (g.push e).mark = g.mark := (push_keep g e).2.1
  refine ⟨?_, ?_, (push_keep g e).1.trans h.sh, fun _ => ⟨by rw [hm]; exact k1, k2⟩, fun h => by cases h⟩
  · rw [hS]
    refine (h.perm.append_right [e]).trans ?_
    rw [List.append_assoc]
    refine List.Perm.append_left T ?_
    exact (List.perm_append_comm (l₁ := g.S) (l₂ := [e])).trans (put_perm g.S e).symm
  · rw [hS]
    have hr := List.pairwise_append.1 h.ris
    have hr2 : Rising elt (put elt g.S e) := hS ▸ (GS.push_ok ok e).ris
    refine List.pairwise_append.2 ⟨hr.1, hr2, fun a ha b hb => ?_⟩
    rcases mem_put.1 hb with rfl | hb
    · have := k2 a ha
      have hlt : a.ts < b.ts := by omega
      simp [elt, nlt, Ev.nm, hlt]
    · exact hr.2.2 a ha b hb
theorem SI.adv {A T : List Ev} {m : Int} {c : Bool} {g : GS} (h : SI A T m c g) {m' : Int} (hp : g.acode m' = 0) : SI A (T ++ g.told m') m' c (g.adv m') := by
  obtain ⟨h1, h2, h3⟩ := GS.acode_ok hp
  have hc : c = false := h.sh.symm.trans h1
  subst hc
  obtain ⟨k1, k2⟩ := h.cl0 rfl
  obtain ⟨_, t1, t2⟩ := adv_yes h1 (rng_iff.1 h2) h3
  rw [t1, t2]
  have e : T ++ thr m' g.S ++ lft m' g.S = T ++ g.S := by rw [List.append_assoc, thr_app]
  refine ⟨by simp only; rw [e]; exact h.perm, by simp only; rw [e]; exact h.ris, h.sh, fun _ => ⟨rfl, fun x hx => ?_⟩, fun h => by cases h⟩
  rcases List.mem_append.1 hx with hx | hx
  · have := k2 x hx; omega
  · exact thr_le x hx
theorem SI.flush {A T : List Ev} {m : Int} {c : Bool} {g : GS} (h : SI A T m c g) : SI A (T ++ g.ftold) m true g.flush := by
  unfold GS.ftold GS.flush
  by_cases hs : g.shut = true
  · rw [if_pos hs, if_pos hs, List.append_nil]
    have hc : c = true := h.sh.symm.trans hs
    exact ⟨h.perm, h.ris, hs, fun hf => absurd hf (by decide), fun _ => h.cl1 hc⟩
  · rw [if_neg hs, if_neg hs]
    exact ⟨by simpa using h.perm, by simpa using h.ris, rfl, fun h => (by cases h), fun _ => rfl⟩

set_option maxHeartbeats 1000000 in
set_option maxRecDepth 100000 in
theorem reason {w : World} {bt : Nat} {av tv : Value} {A T : List Ev} {m : Int} {c : Bool} {g : GS} (e : Ev) (t : Tl w bt av tv A T m c) (si : SI A T m c g) (ok : g.Ok) (hl : A.length ≤ 4611686018427387903) : Gets Try.prog 40 [.pointer (some ⟨bt, 0, none⟩), .int .i64 g.cap, e.v] w fun v w' => v = .int .i64 (g.pcode e) ∧ Ext w w' := by
  refine ⟨GoFn.h, calls_of_swp 49 Try.func40 Try.ntmps40 rfl (Nat.le_of_ble_eq_true rfl) ?_⟩
  (repeat (first | refine swp_seq ?_ | refine swp_block ?_)); refine swp_region (by kernel_rfl) ?_
  refine w_boxA (by rfl) (by rfl) (by rfl) ?_; intro b0 w0 e0 u0 h0
  repeat (first | refine x_move (by rfl) ?_ | refine x_as (by rfl) (by rfl) ?_ | refine x_skip (by rfl) ?_ | refine x_fld (by rfl) (by rfl) FldO.h ?_ | refine x_nilck (by rfl) (by rfl) ?_ | refine x_len (by rfl) (by rfl) ElOf.some ?_ | refine x_ext (by rfl) (by rfl) (by rfl) ?_ | refine x_pickT (by rfl) (by rfl) (by rfl) ?_ | refine x_pickF (by rfl) (by rfl) (by rfl) ?_ | refine x_add (by rfl) (by rfl) (by rfl) (by omega) ?_ | refine x_sub (by rfl) (by rfl) (by rfl) (by omega) ?_ | refine x_not (by rfl) (by rfl) ?_)
  refine x_nilw ?_
  replace h0 : Blk w0 b0 30 e.cells := h0
  have t0 := t.at u0
  (repeat (first | refine swp_seq ?_ | refine swp_block ?_)); refine swp_region (by kernel_rfl) ?_
  repeat (first | refine x_move (by rfl) ?_ | refine x_as (by rfl) (by rfl) ?_ | refine x_skip (by rfl) ?_ | refine x_fld (by rfl) (by rfl) FldO.h ?_ | refine x_nilck (by rfl) (by rfl) ?_ | refine x_len (by rfl) (by rfl) ElOf.some ?_ | refine x_ext (by rfl) (by rfl) (by rfl) ?_ | refine x_pickT (by rfl) (by rfl) (by rfl) ?_ | refine x_pickF (by rfl) (by rfl) (by rfl) ?_ | refine x_add (by rfl) (by rfl) (by rfl) (by omega) ?_ | refine x_sub (by rfl) (by rfl) (by rfl) (by omega) ?_ | refine x_not (by rfl) (by rfl) ?_)
  refine w_load (by rfl) (by rfl) (load_one OneT.h t0.blk (by rfl)) ?_
  repeat (first | refine x_move (by rfl) ?_ | refine x_as (by rfl) (by rfl) ?_ | refine x_skip (by rfl) ?_ | refine x_fld (by rfl) (by rfl) FldO.h ?_ | refine x_nilck (by rfl) (by rfl) ?_ | refine x_len (by rfl) (by rfl) ElOf.some ?_ | refine x_ext (by rfl) (by rfl) (by rfl) ?_ | refine x_pickT (by rfl) (by rfl) (by rfl) ?_ | refine x_pickF (by rfl) (by rfl) (by rfl) ?_ | refine x_add (by rfl) (by rfl) (by rfl) (by omega) ?_ | refine x_sub (by rfl) (by rfl) (by rfl) (by omega) ?_ | refine x_not (by rfl) (by rfl) ?_)
  refine x_nilw ?_
  (repeat (first | refine swp_seq ?_ | refine swp_block ?_))
  refine swp_ifb (by rfl) (fun c1 => ?_) (fun c1 => ?_)
  · subst c1
    (repeat (first | refine swp_seq ?_ | refine swp_block ?_)); refine swp_region (by kernel_rfl) ?_
    repeat (first | refine x_move (by rfl) ?_ | refine x_as (by rfl) (by rfl) ?_ | refine x_skip (by rfl) ?_ | refine x_fld (by rfl) (by rfl) FldO.h ?_ | refine x_nilck (by rfl) (by rfl) ?_ | refine x_len (by rfl) (by rfl) ElOf.some ?_ | refine x_ext (by rfl) (by rfl) (by rfl) ?_ | refine x_pickT (by rfl) (by rfl) (by rfl) ?_ | refine x_pickF (by rfl) (by rfl) (by rfl) ?_ | refine x_add (by rfl) (by rfl) (by rfl) (by omega) ?_ | refine x_sub (by rfl) (by rfl) (by rfl) (by omega) ?_ | refine x_not (by rfl) (by rfl) ?_)
    refine x_nilw ?_
    refine swp_ret ?_; (repeat (first | with_reducible refine r_then ?_ | with_reducible refine r_block ?_ | with_reducible refine r_jump ?_))
    exact post1 rfl rfl ⟨_, rfl, by unfold GS.pcode; rw [si.sh, if_pos rfl]; rfl, u0⟩
  subst c1
  have hsh : g.shut = false := si.sh
  have hmk : m = g.mark := (si.cl0 rfl).1
  refine swp_seq ?_
  refine PEv.swp_cutQ (fun σ w' => At σ [(0, .pointer (some ⟨bt, 0, none⟩)), (1, .int .i64 g.cap), (5, .pointer (some ⟨b0, 0, none⟩)), (12, .bool (!rng e.ts))] ∧ w0 = w') ?_ ?_
  · (repeat (first | refine swp_seq ?_ | refine swp_block ?_)); refine swp_region (by kernel_rfl) ?_
    repeat (first | refine x_move (by rfl) ?_ | refine x_as (by rfl) (by rfl) ?_ | refine x_skip (by rfl) ?_ | refine x_fld (by rfl) (by rfl) FldO.h ?_ | refine x_nilck (by rfl) (by rfl) ?_ | refine x_len (by rfl) (by rfl) ElOf.some ?_ | refine x_ext (by rfl) (by rfl) (by rfl) ?_ | refine x_pickT (by rfl) (by rfl) (by rfl) ?_ | refine x_pickF (by rfl) (by rfl) (by rfl) ?_ | refine x_add (by rfl) (by rfl) (by rfl) (by omega) ?_ | refine x_sub (by rfl) (by rfl) (by rfl) (by omega) ?_ | refine x_not (by rfl) (by rfl) ?_)
    refine w_load (v := .int .i64 e.ts) (by rfl) (by rfl) (load_one OneT.h h0 (by rfl)) ?_
    by_cases l1 : e.ts < minT
    · refine x_lssT (by rfl) (by rfl) (by rfl) l1 ?_
      repeat (first | refine x_move (by rfl) ?_ | refine x_as (by rfl) (by rfl) ?_ | refine x_skip (by rfl) ?_ | refine x_fld (by rfl) (by rfl) FldO.h ?_ | refine x_nilck (by rfl) (by rfl) ?_ | refine x_len (by rfl) (by rfl) ElOf.some ?_ | refine x_ext (by rfl) (by rfl) (by rfl) ?_ | refine x_pickT (by rfl) (by rfl) (by rfl) ?_ | refine x_pickF (by rfl) (by rfl) (by rfl) ?_ | refine x_add (by rfl) (by rfl) (by rfl) (by omega) ?_ | refine x_sub (by rfl) (by rfl) (by rfl) (by omega) ?_ | refine x_not (by rfl) (by rfl) ?_)
      refine x_nilw ?_
      rw [show rng e.ts = false by cases hr : rng e.ts with | false => rfl | true => have := rng_iff.1 hr; omega]
      exact ⟨rfl, at_ ⟨rfl, rfl, rfl, rfl, trivial⟩, rfl⟩
    · refine x_lssF (by rfl) (by rfl) (by rfl) l1 ?_
      repeat (first | refine x_move (by rfl) ?_ | refine x_as (by rfl) (by rfl) ?_ | refine x_skip (by rfl) ?_ | refine x_fld (by rfl) (by rfl) FldO.h ?_ | refine x_nilck (by rfl) (by rfl) ?_ | refine x_len (by rfl) (by rfl) ElOf.some ?_ | refine x_ext (by rfl) (by rfl) (by rfl) ?_ | refine x_pickT (by rfl) (by rfl) (by rfl) ?_ | refine x_pickF (by rfl) (by rfl) (by rfl) ?_ | refine x_add (by rfl) (by rfl) (by rfl) (by omega) ?_ | refine x_sub (by rfl) (by rfl) (by rfl) (by omega) ?_ | refine x_not (by rfl) (by rfl) ?_)
      refine w_load (v := .int .i64 e.ts) (by rfl) (by rfl) (load_one OneT.h h0 (by rfl)) ?_
      refine x_gtr (by rfl) (by rfl) (by rfl) ?_
      repeat (first | refine x_move (by rfl) ?_ | refine x_as (by rfl) (by rfl) ?_ | refine x_skip (by rfl) ?_ | refine x_fld (by rfl) (by rfl) FldO.h ?_ | refine x_nilck (by rfl) (by rfl) ?_ | refine x_len (by rfl) (by rfl) ElOf.some ?_ | refine x_ext (by rfl) (by rfl) (by rfl) ?_ | refine x_pickT (by rfl) (by rfl) (by rfl) ?_ | refine x_pickF (by rfl) (by rfl) (by rfl) ?_ | refine x_add (by rfl) (by rfl) (by rfl) (by omega) ?_ | refine x_sub (by rfl) (by rfl) (by rfl) (by omega) ?_ | refine x_not (by rfl) (by rfl) ?_)
      refine x_nilw ?_
      rw [show (!rng e.ts) = decide (maxT < e.ts) by
        by_cases l2 : maxT < e.ts
        · rw [decide_eq_true l2]; cases hr : rng e.ts with | false => rfl | true => have := rng_iff.1 hr; omega
        · rw [decide_eq_false l2, rng_iff.2 ⟨by omega, by omega⟩]; rfl]
      exact ⟨rfl, at_ ⟨rfl, rfl, rfl, rfl, trivial⟩, rfl⟩
  rintro σ w' ⟨⟨ρ, rfl⟩, rfl⟩
  refine n_then ?_
  refine swp_ifb (by rfl) (fun c2 => ?_) (fun c2 => ?_)
  · (repeat (first | refine swp_seq ?_ | refine swp_block ?_)); refine swp_region (by kernel_rfl) ?_
    repeat (first | refine x_move (by rfl) ?_ | refine x_as (by rfl) (by rfl) ?_ | refine x_skip (by rfl) ?_ | refine x_fld (by rfl) (by rfl) FldO.h ?_ | refine x_nilck (by rfl) (by rfl) ?_ | refine x_len (by rfl) (by rfl) ElOf.some ?_ | refine x_ext (by rfl) (by rfl) (by rfl) ?_ | refine x_pickT (by rfl) (by rfl) (by rfl) ?_ | refine x_pickF (by rfl) (by rfl) (by rfl) ?_ | refine x_add (by rfl) (by rfl) (by rfl) (by omega) ?_ | refine x_sub (by rfl) (by rfl) (by rfl) (by omega) ?_ | refine x_not (by rfl) (by rfl) ?_)
    refine x_nilw ?_
    refine swp_ret ?_; (repeat (first | with_reducible refine r_then ?_ | with_reducible refine r_block ?_ | with_reducible refine r_jump ?_))
    exact post1 rfl rfl ⟨_, rfl, by unfold GS.pcode; rw [hsh, if_neg (by decide), if_pos (by simpa using c2)]; rfl, u0⟩
  replace c2 : rng e.ts = true := by simpa using c2
  (repeat (first | refine swp_seq ?_ | refine swp_block ?_)); refine swp_draw (Ext w0) [] Mixed.h (by kernel_rfl) (by kernel_rfl) (ext_drew w0) ?_
  repeat (first | refine x_move (by rfl) ?_ | refine x_as (by rfl) (by rfl) ?_ | refine x_skip (by rfl) ?_ | refine x_fld (by rfl) (by rfl) FldO.h ?_ | refine x_nilck (by rfl) (by rfl) ?_ | refine x_len (by rfl) (by rfl) ElOf.some ?_ | refine x_ext (by rfl) (by rfl) (by rfl) ?_ | refine x_pickT (by rfl) (by rfl) (by rfl) ?_ | refine x_pickF (by rfl) (by rfl) (by rfl) ?_ | refine x_add (by rfl) (by rfl) (by rfl) (by omega) ?_ | refine x_sub (by rfl) (by rfl) (by rfl) (by omega) ?_ | refine x_not (by rfl) (by rfl) ?_)
  refine q_load (v := .int .i64 e.ts) (by rfl) (by rfl) (by rfl) (fun w' hw' => load_one OneT.h (h0.at hw') (by rfl)) ?_
  repeat (first | refine x_move (by rfl) ?_ | refine x_as (by rfl) (by rfl) ?_ | refine x_skip (by rfl) ?_ | refine x_fld (by rfl) (by rfl) FldO.h ?_ | refine x_nilck (by rfl) (by rfl) ?_ | refine x_len (by rfl) (by rfl) ElOf.some ?_ | refine x_ext (by rfl) (by rfl) (by rfl) ?_ | refine x_pickT (by rfl) (by rfl) (by rfl) ?_ | refine x_pickF (by rfl) (by rfl) (by rfl) ?_ | refine x_add (by rfl) (by rfl) (by rfl) (by omega) ?_ | refine x_sub (by rfl) (by rfl) (by rfl) (by omega) ?_ | refine x_not (by rfl) (by rfl) ?_)
  refine q_load (v := .int .i64 m) (by rfl) (by rfl) (by rfl) (fun w' hw' => load_one OneT.h (t0.blk.at hw') (by rfl)) ?_
  refine x_leq (by rfl) (by rfl) (by rfl) ?_
  repeat (first | refine x_move (by rfl) ?_ | refine x_as (by rfl) (by rfl) ?_ | refine x_skip (by rfl) ?_ | refine x_fld (by rfl) (by rfl) FldO.h ?_ | refine x_nilck (by rfl) (by rfl) ?_ | refine x_len (by rfl) (by rfl) ElOf.some ?_ | refine x_ext (by rfl) (by rfl) (by rfl) ?_ | refine x_pickT (by rfl) (by rfl) (by rfl) ?_ | refine x_pickF (by rfl) (by rfl) (by rfl) ?_ | refine x_add (by rfl) (by rfl) (by rfl) (by omega) ?_ | refine x_sub (by rfl) (by rfl) (by rfl) (by omega) ?_ | refine x_not (by rfl) (by rfl) ?_)
  refine x_nil fun w1 u1 => ?_
  (repeat (first | refine swp_seq ?_ | refine swp_block ?_))
  refine swp_if (by rfl) (fun c3 => ?_) (fun c3 => ?_)
  · (repeat (first | refine swp_seq ?_ | refine swp_block ?_)); refine swp_region (by kernel_rfl) ?_
    repeat (first | refine x_move (by rfl) ?_ | refine x_as (by rfl) (by rfl) ?_ | refine x_skip (by rfl) ?_ | refine x_fld (by rfl) (by rfl) FldO.h ?_ | refine x_nilck (by rfl) (by rfl) ?_ | refine x_len (by rfl) (by rfl) ElOf.some ?_ | refine x_ext (by rfl) (by rfl) (by rfl) ?_ | refine x_pickT (by rfl) (by rfl) (by rfl) ?_ | refine x_pickF (by rfl) (by rfl) (by rfl) ?_ | refine x_add (by rfl) (by rfl) (by rfl) (by omega) ?_ | refine x_sub (by rfl) (by rfl) (by rfl) (by omega) ?_ | refine x_not (by rfl) (by rfl) ?_)
    refine x_nilw ?_
    refine swp_ret ?_; (repeat (first | with_reducible refine r_then ?_ | with_reducible refine r_block ?_ | with_reducible refine r_jump ?_))
    exact post1 rfl rfl ⟨_, rfl, by unfold GS.pcode; rw [hsh, if_neg (by decide), if_neg (by simp [c2]), if_pos (by omega)]; rfl, u0.trans u1⟩
  have t1 := t0.at u1
  have h1 := h0.at u1
  refine swp_fit [(0, .pointer (some ⟨bt, 0, none⟩)), (1, .int .i64 g.cap), (5, .pointer (some ⟨b0, 0, none⟩))] ⟨rfl, rfl, rfl, trivial⟩ fun ρ => ?_
  (repeat (first | refine swp_seq ?_ | refine swp_block ?_)); refine swp_draw (Ext w1) [] Mixed.h (by kernel_rfl) (by kernel_rfl) (ext_drew w1) ?_
  repeat (first | refine x_move (by rfl) ?_ | refine x_as (by rfl) (by rfl) ?_ | refine x_skip (by rfl) ?_ | refine x_fld (by rfl) (by rfl) FldO.h ?_ | refine x_nilck (by rfl) (by rfl) ?_ | refine x_len (by rfl) (by rfl) ElOf.some ?_ | refine x_ext (by rfl) (by rfl) (by rfl) ?_ | refine x_pickT (by rfl) (by rfl) (by rfl) ?_ | refine x_pickF (by rfl) (by rfl) (by rfl) ?_ | refine x_add (by rfl) (by rfl) (by rfl) (by omega) ?_ | refine x_sub (by rfl) (by rfl) (by rfl) (by omega) ?_ | refine x_not (by rfl) (by rfl) ?_)
  refine q_load (v := av) (by rfl) (by rfl) (by rfl) (fun w' hw' => load_one OneT.h (t1.blk.at hw') (by rfl)) ?_
  refine q_load (by rfl) (by rfl) (by rfl) (fun w' hw' => load_agg (xs := e.cells) AggT.h (h1.at hw') (by rfl) (by rfl)) ?_
  refine q_call (v := .int .i64 ((A.filter (pN e)).length : Nat)) (by rfl) (by rfl) (by rfl) (fun w' hw' => (named e (t1.oa.rd.at hw') hl).mono fun v w'' h => ⟨h.1, hw'.trans h.2⟩) ?_
  refine x_gtr (by rfl) (by rfl) (by rfl) ?_
  repeat (first | refine x_move (by rfl) ?_ | refine x_as (by rfl) (by rfl) ?_ | refine x_skip (by rfl) ?_ | refine x_fld (by rfl) (by rfl) FldO.h ?_ | refine x_nilck (by rfl) (by rfl) ?_ | refine x_len (by rfl) (by rfl) ElOf.some ?_ | refine x_ext (by rfl) (by rfl) (by rfl) ?_ | refine x_pickT (by rfl) (by rfl) (by rfl) ?_ | refine x_pickF (by rfl) (by rfl) (by rfl) ?_ | refine x_add (by rfl) (by rfl) (by rfl) (by omega) ?_ | refine x_sub (by rfl) (by rfl) (by rfl) (by omega) ?_ | refine x_not (by rfl) (by rfl) ?_)
  refine x_nil fun w2 u2 => ?_
  have hnm := si.named (e := e) (by omega)
  (repeat (first | refine swp_seq ?_ | refine swp_block ?_))
  refine swp_if (by rfl) (fun c4 => ?_) (fun c4 => ?_)
  · (repeat (first | refine swp_seq ?_ | refine swp_block ?_)); refine swp_region (by kernel_rfl) ?_
    repeat (first | refine x_move (by rfl) ?_ | refine x_as (by rfl) (by rfl) ?_ | refine x_skip (by rfl) ?_ | refine x_fld (by rfl) (by rfl) FldO.h ?_ | refine x_nilck (by rfl) (by rfl) ?_ | refine x_len (by rfl) (by rfl) ElOf.some ?_ | refine x_ext (by rfl) (by rfl) (by rfl) ?_ | refine x_pickT (by rfl) (by rfl) (by rfl) ?_ | refine x_pickF (by rfl) (by rfl) (by rfl) ?_ | refine x_add (by rfl) (by rfl) (by rfl) (by omega) ?_ | refine x_sub (by rfl) (by rfl) (by rfl) (by omega) ?_ | refine x_not (by rfl) (by rfl) ?_)
    refine x_nilw ?_
    refine swp_ret ?_; (repeat (first | with_reducible refine r_then ?_ | with_reducible refine r_block ?_ | with_reducible refine r_jump ?_))
    exact post1 rfl rfl ⟨_, rfl, by unfold GS.pcode; rw [hsh, if_neg (by decide), if_neg (by simp [c2]), if_neg (by omega), if_pos (hnm.1 (by omega))]; rfl, (u0.trans u1).trans u2⟩
  have c4' : e.nm ∉ g.S.map Ev.nm := fun h => c4 (by have := hnm.2 h; omega)
  have t2 := t1.at u2
  have hab := si.above ok
  have hlc := ok.len
  refine swp_fit [(0, .pointer (some ⟨bt, 0, none⟩)), (1, .int .i64 g.cap), (5, .pointer (some ⟨b0, 0, none⟩))] ⟨rfl, rfl, rfl, trivial⟩ fun ρ => ?_
  (repeat (first | refine swp_seq ?_ | refine swp_block ?_)); refine swp_draw (Ext w2) [] Mixed.h (by kernel_rfl) (by kernel_rfl) (ext_drew w2) ?_
  repeat (first | refine x_move (by rfl) ?_ | refine x_as (by rfl) (by rfl) ?_ | refine x_skip (by rfl) ?_ | refine x_fld (by rfl) (by rfl) FldO.h ?_ | refine x_nilck (by rfl) (by rfl) ?_ | refine x_len (by rfl) (by rfl) ElOf.some ?_ | refine x_ext (by rfl) (by rfl) (by rfl) ?_ | refine x_pickT (by rfl) (by rfl) (by rfl) ?_ | refine x_pickF (by rfl) (by rfl) (by rfl) ?_ | refine x_add (by rfl) (by rfl) (by rfl) (by omega) ?_ | refine x_sub (by rfl) (by rfl) (by rfl) (by omega) ?_ | refine x_not (by rfl) (by rfl) ?_)
  refine q_load (v := av) (by rfl) (by rfl) (by rfl) (fun w' hw' => load_one OneT.h (t2.blk.at hw') (by rfl)) ?_
  repeat (first | refine x_move (by rfl) ?_ | refine x_as (by rfl) (by rfl) ?_ | refine x_skip (by rfl) ?_ | refine x_fld (by rfl) (by rfl) FldO.h ?_ | refine x_nilck (by rfl) (by rfl) ?_ | refine x_len (by rfl) (by rfl) ElOf.some ?_ | refine x_ext (by rfl) (by rfl) (by rfl) ?_ | refine x_pickT (by rfl) (by rfl) (by rfl) ?_ | refine x_pickF (by rfl) (by rfl) (by rfl) ?_ | refine x_add (by rfl) (by rfl) (by rfl) (by omega) ?_ | refine x_sub (by rfl) (by rfl) (by rfl) (by omega) ?_ | refine x_not (by rfl) (by rfl) ?_)
  refine q_load (v := .int .i64 m) (by rfl) (by rfl) (by rfl) (fun w' hw' => load_one OneT.h (t2.blk.at hw') (by rfl)) ?_
  refine q_call (v := .int .i64 ((A.filter (pU m)).length : Nat)) (by rfl) (by rfl) (by rfl) (fun w' hw' => (above m (t2.oa.rd.at hw') hl).mono fun v w'' h => ⟨h.1, hw'.trans h.2⟩) ?_
  repeat (first | refine x_move (by rfl) ?_ | refine x_as (by rfl) (by rfl) ?_ | refine x_skip (by rfl) ?_ | refine x_fld (by rfl) (by rfl) FldO.h ?_ | refine x_nilck (by rfl) (by rfl) ?_ | refine x_len (by rfl) (by rfl) ElOf.some ?_ | refine x_ext (by rfl) (by rfl) (by rfl) ?_ | refine x_pickT (by rfl) (by rfl) (by rfl) ?_ | refine x_pickF (by rfl) (by rfl) (by rfl) ?_ | refine x_add (by rfl) (by rfl) (by rfl) (by omega) ?_ | refine x_sub (by rfl) (by rfl) (by rfl) (by omega) ?_ | refine x_not (by rfl) (by rfl) ?_)
  refine x_geq (by rfl) (by rfl) (by rfl) ?_
  repeat (first | refine x_move (by rfl) ?_ | refine x_as (by rfl) (by rfl) ?_ | refine x_skip (by rfl) ?_ | refine x_fld (by rfl) (by rfl) FldO.h ?_ | refine x_nilck (by rfl) (by rfl) ?_ | refine x_len (by rfl) (by rfl) ElOf.some ?_ | refine x_ext (by rfl) (by rfl) (by rfl) ?_ | refine x_pickT (by rfl) (by rfl) (by rfl) ?_ | refine x_pickF (by rfl) (by rfl) (by rfl) ?_ | refine x_add (by rfl) (by rfl) (by rfl) (by omega) ?_ | refine x_sub (by rfl) (by rfl) (by rfl) (by omega) ?_ | refine x_not (by rfl) (by rfl) ?_)
  refine x_nil fun w3 u3 => ?_
  (repeat (first | refine swp_seq ?_ | refine swp_block ?_))
  refine swp_if (by rfl) (fun c5 => ?_) (fun c5 => swp_skip ?_)
  · (repeat (first | refine swp_seq ?_ | refine swp_block ?_)); refine swp_region (by kernel_rfl) ?_
    repeat (first | refine x_move (by rfl) ?_ | refine x_as (by rfl) (by rfl) ?_ | refine x_skip (by rfl) ?_ | refine x_fld (by rfl) (by rfl) FldO.h ?_ | refine x_nilck (by rfl) (by rfl) ?_ | refine x_len (by rfl) (by rfl) ElOf.some ?_ | refine x_ext (by rfl) (by rfl) (by rfl) ?_ | refine x_pickT (by rfl) (by rfl) (by rfl) ?_ | refine x_pickF (by rfl) (by rfl) (by rfl) ?_ | refine x_add (by rfl) (by rfl) (by rfl) (by omega) ?_ | refine x_sub (by rfl) (by rfl) (by rfl) (by omega) ?_ | refine x_not (by rfl) (by rfl) ?_)
    refine x_nilw ?_
    refine swp_ret ?_; (repeat (first | with_reducible refine r_then ?_ | with_reducible refine r_block ?_ | with_reducible refine r_jump ?_))
    exact post1 rfl rfl ⟨_, rfl, by unfold GS.pcode; rw [hsh, if_neg (by decide), if_neg (by simp [c2]), if_neg (by omega), if_neg c4', if_pos (by omega)]; rfl, ((u0.trans u1).trans u2).trans u3⟩
  (repeat (first | with_reducible refine n_then ?_ | with_reducible refine n_block ?_ | with_reducible refine n_jump ?_))
  (repeat (first | refine swp_seq ?_ | refine swp_block ?_)); refine swp_region (by kernel_rfl) ?_
  repeat (first | refine x_move (by rfl) ?_ | refine x_as (by rfl) (by rfl) ?_ | refine x_skip (by rfl) ?_ | refine x_fld (by rfl) (by rfl) FldO.h ?_ | refine x_nilck (by rfl) (by rfl) ?_ | refine x_len (by rfl) (by rfl) ElOf.some ?_ | refine x_ext (by rfl) (by rfl) (by rfl) ?_ | refine x_pickT (by rfl) (by rfl) (by rfl) ?_ | refine x_pickF (by rfl) (by rfl) (by rfl) ?_ | refine x_add (by rfl) (by rfl) (by rfl) (by omega) ?_ | refine x_sub (by rfl) (by rfl) (by rfl) (by omega) ?_ | refine x_not (by rfl) (by rfl) ?_)
  refine x_nilw ?_
  refine swp_ret ?_; (repeat (first | with_reducible refine r_then ?_ | with_reducible refine r_block ?_ | with_reducible refine r_jump ?_))
  exact post1 rfl rfl ⟨_, rfl, by unfold GS.pcode; rw [hsh, if_neg (by decide), if_neg (by simp [c2]), if_neg (by omega), if_neg c4', if_neg (by omega)]; rfl, ((u0.trans u1).trans u2).trans u3⟩
end Go.Proofs.Ytnhecopgecoloaa
