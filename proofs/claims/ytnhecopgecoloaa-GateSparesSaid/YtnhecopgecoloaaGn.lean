/- A gate is restored. Conditions: none. -/
import Derived.Test.YtnhecopgecoloaaGm
namespace Go.Proofs.Ytnhecopgecoloaa
open Hp Sx

def Good (cap mark : Int) (held : List Ev) : Prop := Rising elt held ∧ (held.length : Int) ≤ cap ∧ ∀ x ∈ held, mark < x.ts ∧ x.ts ≤ maxT
def BadM (mark : Int) (shut : Bool) : Prop := mark < noM ∨ maxT < mark ∨ (shut = true ∧ mark ≠ maxT)
instance (mark : Int) (shut : Bool) : Decidable (BadM mark shut) := inferInstanceAs (Decidable (_ ∨ _ ∨ _ ∧ _))
/-- Restore's code -/
def RC (cap mark : Int) (shut : Bool) (held : List Ev) (code : Int) : Prop :=
  (code = 100 ∧ ¬ (1 ≤ cap ∧ cap ≤ 4096)) ∨ ((1 ≤ cap ∧ cap ≤ 4096) ∧ ((code = 106 ∧ BadM mark shut) ∨ (¬ BadM mark shut ∧ ((code = 107 ∧ ((shut = true ∧ held ≠ []) ∨ ¬ Good cap mark held)) ∨ (code = 0 ∧ ¬ (shut = true ∧ held ≠ []) ∧ Good cap mark held)))))
theorem RC.unique {cap mark : Int} {shut : Bool} {held : List Ev} {c d : Int} (h : RC cap mark shut held c) (h' : RC cap mark shut held d) : c = d := by
  rcases h with ⟨rfl, h1⟩ | ⟨h1, ⟨rfl, h2⟩ | ⟨h2, ⟨rfl, h3⟩ | ⟨rfl, h3, h4⟩⟩⟩ <;> rcases h' with ⟨rfl, k1⟩ | ⟨k1, ⟨rfl, k2⟩ | ⟨k2, ⟨rfl, k3⟩ | ⟨rfl, k3, k4⟩⟩⟩ <;> first
    | rfl
    | exact absurd k1 h1
    | exact absurd h1 k1
    | exact absurd k2 h2
    | exact absurd h2 k2
    | exact (h3.elim (fun h => absurd h k3) fun h => absurd k4 h)
    | exact (k3.elim (fun h => absurd h h3) fun h => absurd h4 h)
theorem rise_snoc {l : List Ev} {x : Ev} (h : Rising elt l) (hx : ∀ p, l.getLast? = some p → elt p x = true) : ∀ a ∈ l, elt a x = true := by
  intro a ha
  obtain ⟨l', p, rfl⟩ : ∃ l' p, l = l' ++ [p] := ⟨l.dropLast, l.getLast (List.ne_nil_of_mem ha), (List.dropLast_concat_getLast (List.ne_nil_of_mem ha)).symm⟩
  have hp := hx p (by simp)
  rcases List.mem_append.1 ha with ha | ha
  · exact elt_ord.tr _ _ _ ((List.pairwise_append.1 h).2.2 a ha p (by simp)) hp
  · obtain rfl := List.mem_singleton.1 ha
    exact hp
theorem elt_nm {a x : Ev} (h : elt a x = true) : a.nm ≠ x.nm := fun e => by
  have : elt a x = elt x x := by simp only [elt, e]
  rw [this, elt_ord.irr] at h
  exact Bool.false_ne_true h
/-- the gate that is being filled -/
def gR (cap mark : Int) (held : List Ev) (i : Nat) : GS := ⟨held.take i, cap, mark, false⟩
theorem good_push {cap mark : Int} {held : List Ev} {i : Nat} {x : Ev} (hg : Good cap mark held) (hm : noM ≤ mark) (hx : held[i]? = some x) : (gR cap mark held i).pcode x = 0 := by
  obtain ⟨h1, h2, h3⟩ := hg
  have hil := (List.getElem?_eq_some_iff.1 hx).1
  obtain ⟨h4, h5⟩ := h3 x (List.mem_of_getElem? hx)
  refine pcode0 rfl ⟨by unfold noM at hm; unfold minT; omega, h5⟩ h4 (fun hn => ?_) ?_
  · obtain ⟨a, ha, he⟩ := List.mem_map.1 hn
    have hr : Rising elt (held.take (i + 1)) := List.Pairwise.sublist (List.take_sublist _ _) h1
    rw [take_succ' hx] at hr
    exact elt_nm ((List.pairwise_append.1 hr).2.2 a ha x (by simp)) he
  · simp only [gR, List.length_take]
    omega
theorem gR_push {cap mark : Int} {held : List Ev} {i : Nat} {x : Ev} (hx : held[i]? = some x) (hp : (gR cap mark held i).pcode x = 0) (hlt : ∀ a ∈ held.take i, elt a x = true) : (gR cap mark held i).push x = gR cap mark held (i + 1) := by
  unfold GS.push
  rw [if_pos hp]
  simp only [gR]
  rw [put_last fun a ha => elt_ord.asymm (hlt a ha), take_succ' hx]
theorem last_take {held : List Ev} {i : Nat} {p : Ev} (h : 0 < i) (hp : held[i - 1]? = some p) : (held.take i).getLast? = some p := by
  obtain ⟨j, rfl⟩ : ∃ j, i = j + 1 := ⟨i - 1, by omega⟩
  rw [Nat.add_sub_cancel] at hp
  rw [take_succ' hp]
  simp

set_option maxHeartbeats 4000000 in
set_option maxRecDepth 100000 in
theorem g_restore {w : World} {sv : Value} {held : List Ev} (cap mark : Int) (shut : Bool) (h : Rd w 11 sv held.length (fl Ev.cells held)) (hhl : held.length ≤ 2305843009213693951) : Gets Try.prog 25 [.int .i64 cap, .int .i64 mark, .bool shut, sv] w fun v w' =>
    ∃ code, RC cap mark shut held code ∧ ((code ≠ 0 ∧ v = .tuple #[.pointer none, .int .i64 code] ∧ Ext w w') ∨
      (code = 0 ∧ ∃ bg r bp sp N, v = .tuple #[.pointer (some ⟨bg, 0, none⟩), .int .i64 0] ∧ Gt w' bg r bp sp ⟨held, cap, mark, shut⟩ N ∧ (GS.mk held cap mark shut).Ok ∧ N ≤ 4096 ∧ (∀ b, gfoot bg r bp sp b → w.heap.size ≤ b) ∧ Ext w w')) := by
  obtain ⟨a0, c0, rfl⟩ := h.slice
  refine ⟨GoFn.h, calls_of_swp 77 Try.func25 Try.ntmps25 rfl (Nat.le_of_ble_eq_true rfl) ?_⟩
  (repeat (first | refine swp_seq ?_ | refine swp_block ?_)); refine swp_region (by kernel_rfl) ?_
  repeat (first | refine x_move (by rfl) ?_ | refine x_as (by rfl) (by rfl) ?_ | refine x_skip (by rfl) ?_ | refine x_fld (by rfl) (by rfl) FldO.h ?_ | refine x_nilck (by rfl) (by rfl) ?_ | refine x_len (by rfl) (by rfl) ElOf.some ?_ | refine x_ext (by rfl) (by rfl) (by rfl) ?_ | refine x_pickT (by rfl) (by rfl) (by rfl) ?_ | refine x_pickF (by rfl) (by rfl) (by rfl) ?_ | refine x_add (by rfl) (by rfl) (by rfl) (by omega) ?_ | refine x_sub (by rfl) (by rfl) (by rfl) (by omega) ?_ | refine x_not (by rfl) (by rfl) ?_)
  refine x_nilw ?_
  (repeat (first | refine swp_seq ?_ | refine swp_block ?_)); refine swp_region (by kernel_rfl) ?_
  repeat (first | refine x_move (by rfl) ?_ | refine x_as (by rfl) (by rfl) ?_ | refine x_skip (by rfl) ?_ | refine x_fld (by rfl) (by rfl) FldO.h ?_ | refine x_nilck (by rfl) (by rfl) ?_ | refine x_len (by rfl) (by rfl) ElOf.some ?_ | refine x_ext (by rfl) (by rfl) (by rfl) ?_ | refine x_pickT (by rfl) (by rfl) (by rfl) ?_ | refine x_pickF (by rfl) (by rfl) (by rfl) ?_ | refine x_add (by rfl) (by rfl) (by rfl) (by omega) ?_ | refine x_sub (by rfl) (by rfl) (by rfl) (by omega) ?_ | refine x_not (by rfl) (by rfl) ?_)
  refine w_call (by rfl) (by rfl) (by rfl) (g_new cap w) ?_
  rintro _ w1 (⟨hc, rfl, u1⟩ | ⟨hc, bg, r, bp, sp, rfl, g1, hf1, u1⟩)
  · repeat (first | refine x_move (by rfl) ?_ | refine x_as (by rfl) (by rfl) ?_ | refine x_skip (by rfl) ?_ | refine x_fld (by rfl) (by rfl) FldO.h ?_ | refine x_nilck (by rfl) (by rfl) ?_ | refine x_len (by rfl) (by rfl) ElOf.some ?_ | refine x_ext (by rfl) (by rfl) (by rfl) ?_ | refine x_pickT (by rfl) (by rfl) (by rfl) ?_ | refine x_pickF (by rfl) (by rfl) (by rfl) ?_ | refine x_add (by rfl) (by rfl) (by rfl) (by omega) ?_ | refine x_sub (by rfl) (by rfl) (by rfl) (by omega) ?_ | refine x_not (by rfl) (by rfl) ?_)
    refine x_nilw ?_
    (repeat (first | refine swp_seq ?_ | refine swp_block ?_)); refine swp_region (by kernel_rfl) ?_
    repeat (first | refine x_move (by rfl) ?_ | refine x_as (by rfl) (by rfl) ?_ | refine x_skip (by rfl) ?_ | refine x_fld (by rfl) (by rfl) FldO.h ?_ | refine x_nilck (by rfl) (by rfl) ?_ | refine x_len (by rfl) (by rfl) ElOf.some ?_ | refine x_ext (by rfl) (by rfl) (by rfl) ?_ | refine x_pickT (by rfl) (by rfl) (by rfl) ?_ | refine x_pickF (by rfl) (by rfl) (by rfl) ?_ | refine x_add (by rfl) (by rfl) (by rfl) (by omega) ?_ | refine x_sub (by rfl) (by rfl) (by rfl) (by omega) ?_ | refine x_not (by rfl) (by rfl) ?_)
    refine x_neqT (by rfl) (by rfl) (by rfl) (by omega) ?_
    refine x_nilw ?_
    (repeat (first | refine swp_seq ?_ | refine swp_block ?_))
    refine swp_true (by rfl) ?_
    (repeat (first | refine swp_seq ?_ | refine swp_block ?_)); refine swp_region (by kernel_rfl) ?_
    repeat (first | refine x_move (by rfl) ?_ | refine x_as (by rfl) (by rfl) ?_ | refine x_skip (by rfl) ?_ | refine x_fld (by rfl) (by rfl) FldO.h ?_ | refine x_nilck (by rfl) (by rfl) ?_ | refine x_len (by rfl) (by rfl) ElOf.some ?_ | refine x_ext (by rfl) (by rfl) (by rfl) ?_ | refine x_pickT (by rfl) (by rfl) (by rfl) ?_ | refine x_pickF (by rfl) (by rfl) (by rfl) ?_ | refine x_add (by rfl) (by rfl) (by rfl) (by omega) ?_ | refine x_sub (by rfl) (by rfl) (by rfl) (by omega) ?_ | refine x_not (by rfl) (by rfl) ?_)
    refine x_nilw ?_
    refine swp_ret ?_; (repeat (first | with_reducible refine r_then ?_ | with_reducible refine r_block ?_ | with_reducible refine r_jump ?_))
    exact post2 rfl rfl rfl ⟨_, rfl, 100, .inl ⟨rfl, hc⟩, .inl ⟨by omega, rfl, u1⟩⟩
  repeat (first | refine x_move (by rfl) ?_ | refine x_as (by rfl) (by rfl) ?_ | refine x_skip (by rfl) ?_ | refine x_fld (by rfl) (by rfl) FldO.h ?_ | refine x_nilck (by rfl) (by rfl) ?_ | refine x_len (by rfl) (by rfl) ElOf.some ?_ | refine x_ext (by rfl) (by rfl) (by rfl) ?_ | refine x_pickT (by rfl) (by rfl) (by rfl) ?_ | refine x_pickF (by rfl) (by rfl) (by rfl) ?_ | refine x_add (by rfl) (by rfl) (by rfl) (by omega) ?_ | refine x_sub (by rfl) (by rfl) (by rfl) (by omega) ?_ | refine x_not (by rfl) (by rfl) ?_)
  refine x_nilw ?_
  (repeat (first | refine swp_seq ?_ | refine swp_block ?_)); refine swp_region (by kernel_rfl) ?_
  repeat (first | refine x_move (by rfl) ?_ | refine x_as (by rfl) (by rfl) ?_ | refine x_skip (by rfl) ?_ | refine x_fld (by rfl) (by rfl) FldO.h ?_ | refine x_nilck (by rfl) (by rfl) ?_ | refine x_len (by rfl) (by rfl) ElOf.some ?_ | refine x_ext (by rfl) (by rfl) (by rfl) ?_ | refine x_pickT (by rfl) (by rfl) (by rfl) ?_ | refine x_pickF (by rfl) (by rfl) (by rfl) ?_ | refine x_add (by rfl) (by rfl) (by rfl) (by omega) ?_ | refine x_sub (by rfl) (by rfl) (by rfl) (by omega) ?_ | refine x_not (by rfl) (by rfl) ?_)
  refine x_neqF (by rfl) (by rfl) (by rfl) (fun h => h rfl) ?_
  refine x_nilw ?_
  (repeat (first | refine swp_seq ?_ | refine swp_block ?_))
  refine swp_false (by rfl) (swp_skip ?_)
  (repeat (first | with_reducible refine n_then ?_ | with_reducible refine n_block ?_ | with_reducible refine n_jump ?_))
  refine swp_fit [(1, .int .i64 mark), (2, .bool shut), (3, .slice a0 held.length c0), (10, .pointer (some ⟨bg, 0, none⟩))] ⟨rfl, rfl, rfl, rfl, trivial⟩ fun ρ => ?_
  (repeat (first | refine swp_seq ?_ | refine swp_block ?_))
  refine PEv.swp_cutQ (fun σ w' => At σ [(1, .int .i64 mark), (2, .bool shut), (3, .slice a0 held.length c0), (10, .pointer (some ⟨bg, 0, none⟩)), (35, .bool (decide (BadM mark shut)))] ∧ w1 = w') ?_ ?_
  · (repeat (first | refine swp_seq ?_ | refine swp_block ?_)); refine swp_region (by kernel_rfl) ?_
    repeat (first | refine x_move (by rfl) ?_ | refine x_as (by rfl) (by rfl) ?_ | refine x_skip (by rfl) ?_ | refine x_fld (by rfl) (by rfl) FldO.h ?_ | refine x_nilck (by rfl) (by rfl) ?_ | refine x_len (by rfl) (by rfl) ElOf.some ?_ | refine x_ext (by rfl) (by rfl) (by rfl) ?_ | refine x_pickT (by rfl) (by rfl) (by rfl) ?_ | refine x_pickF (by rfl) (by rfl) (by rfl) ?_ | refine x_add (by rfl) (by rfl) (by rfl) (by omega) ?_ | refine x_sub (by rfl) (by rfl) (by rfl) (by omega) ?_ | refine x_not (by rfl) (by rfl) ?_)
    by_cases b1 : mark < noM ∨ maxT < mark
    · refine x_neqT (by rfl) (by rfl) (by rfl) (show mark ≠ noM by unfold noM at b1 ⊢; unfold maxT at b1; omega) ?_
      repeat (first | refine x_move (by rfl) ?_ | refine x_as (by rfl) (by rfl) ?_ | refine x_skip (by rfl) ?_ | refine x_fld (by rfl) (by rfl) FldO.h ?_ | refine x_nilck (by rfl) (by rfl) ?_ | refine x_len (by rfl) (by rfl) ElOf.some ?_ | refine x_ext (by rfl) (by rfl) (by rfl) ?_ | refine x_pickT (by rfl) (by rfl) (by rfl) ?_ | refine x_pickF (by rfl) (by rfl) (by rfl) ?_ | refine x_add (by rfl) (by rfl) (by rfl) (by omega) ?_ | refine x_sub (by rfl) (by rfl) (by rfl) (by omega) ?_ | refine x_not (by rfl) (by rfl) ?_)
      refine w_call (by rfl) (by rfl) (by rfl) (in_range mark w1) ?_
      rintro _ _ ⟨rfl, rfl⟩
      rw [show rng mark = false by cases hr : rng mark with | false => rfl | true => have := rng_iff.1 hr; unfold minT at this; unfold noM at b1; omega]
      repeat (first | refine x_move (by rfl) ?_ | refine x_as (by rfl) (by rfl) ?_ | refine x_skip (by rfl) ?_ | refine x_fld (by rfl) (by rfl) FldO.h ?_ | refine x_nilck (by rfl) (by rfl) ?_ | refine x_len (by rfl) (by rfl) ElOf.some ?_ | refine x_ext (by rfl) (by rfl) (by rfl) ?_ | refine x_pickT (by rfl) (by rfl) (by rfl) ?_ | refine x_pickF (by rfl) (by rfl) (by rfl) ?_ | refine x_add (by rfl) (by rfl) (by rfl) (by omega) ?_ | refine x_sub (by rfl) (by rfl) (by rfl) (by omega) ?_ | refine x_not (by rfl) (by rfl) ?_)
      refine x_nilw ?_
      rw [decide_eq_true (show BadM mark shut from b1.elim .inl fun h => .inr (.inl h))]
      exact ⟨rfl, at_ ⟨rfl, rfl, rfl, rfl, rfl, trivial⟩, rfl⟩
    · have hb : decide (BadM mark shut) = (shut && decide (mark ≠ maxT)) := by
        cases shut with
        | true =>
          by_cases hm : mark = maxT
          · rw [decide_eq_false (show ¬ BadM mark true from fun h => by rcases h with h | h | h; exact b1 (.inl h); exact b1 (.inr h); exact h.2 hm)]; simp [hm]
          · rw [decide_eq_true (show BadM mark true from .inr (.inr ⟨rfl, hm⟩))]; simp [hm]
        | false => rw [decide_eq_false (show ¬ BadM mark false from fun h => by rcases h with h | h | h; exact b1 (.inl h); exact b1 (.inr h); exact absurd h.1 (by decide))]; rfl
      rw [hb]
      by_cases m1 : mark = noM
      · refine x_neqF (by rfl) (by rfl) (by rfl) (fun h => h m1) ?_
        repeat (first | refine x_move (by rfl) ?_ | refine x_as (by rfl) (by rfl) ?_ | refine x_skip (by rfl) ?_ | refine x_fld (by rfl) (by rfl) FldO.h ?_ | refine x_nilck (by rfl) (by rfl) ?_ | refine x_len (by rfl) (by rfl) ElOf.some ?_ | refine x_ext (by rfl) (by rfl) (by rfl) ?_ | refine x_pickT (by rfl) (by rfl) (by rfl) ?_ | refine x_pickF (by rfl) (by rfl) (by rfl) ?_ | refine x_add (by rfl) (by rfl) (by rfl) (by omega) ?_ | refine x_sub (by rfl) (by rfl) (by rfl) (by omega) ?_ | refine x_not (by rfl) (by rfl) ?_)
        cases shut with
        | true =>
          repeat (first | refine x_move (by rfl) ?_ | refine x_as (by rfl) (by rfl) ?_ | refine x_skip (by rfl) ?_ | refine x_fld (by rfl) (by rfl) FldO.h ?_ | refine x_nilck (by rfl) (by rfl) ?_ | refine x_len (by rfl) (by rfl) ElOf.some ?_ | refine x_ext (by rfl) (by rfl) (by rfl) ?_ | refine x_pickT (by rfl) (by rfl) (by rfl) ?_ | refine x_pickF (by rfl) (by rfl) (by rfl) ?_ | refine x_add (by rfl) (by rfl) (by rfl) (by omega) ?_ | refine x_sub (by rfl) (by rfl) (by rfl) (by omega) ?_ | refine x_not (by rfl) (by rfl) ?_)
          refine x_neq (by rfl) (by rfl) (by rfl) ?_
          repeat (first | refine x_move (by rfl) ?_ | refine x_as (by rfl) (by rfl) ?_ | refine x_skip (by rfl) ?_ | refine x_fld (by rfl) (by rfl) FldO.h ?_ | refine x_nilck (by rfl) (by rfl) ?_ | refine x_len (by rfl) (by rfl) ElOf.some ?_ | refine x_ext (by rfl) (by rfl) (by rfl) ?_ | refine x_pickT (by rfl) (by rfl) (by rfl) ?_ | refine x_pickF (by rfl) (by rfl) (by rfl) ?_ | refine x_add (by rfl) (by rfl) (by rfl) (by omega) ?_ | refine x_sub (by rfl) (by rfl) (by rfl) (by omega) ?_ | refine x_not (by rfl) (by rfl) ?_)
          refine x_nilw ?_
          refine ⟨rfl, ?_, rfl⟩
          rw [Bool.true_and]
          exact at_ ⟨rfl, rfl, rfl, rfl, rfl, trivial⟩
        | false =>
          repeat (first | refine x_move (by rfl) ?_ | refine x_as (by rfl) (by rfl) ?_ | refine x_skip (by rfl) ?_ | refine x_fld (by rfl) (by rfl) FldO.h ?_ | refine x_nilck (by rfl) (by rfl) ?_ | refine x_len (by rfl) (by rfl) ElOf.some ?_ | refine x_ext (by rfl) (by rfl) (by rfl) ?_ | refine x_pickT (by rfl) (by rfl) (by rfl) ?_ | refine x_pickF (by rfl) (by rfl) (by rfl) ?_ | refine x_add (by rfl) (by rfl) (by rfl) (by omega) ?_ | refine x_sub (by rfl) (by rfl) (by rfl) (by omega) ?_ | refine x_not (by rfl) (by rfl) ?_)
          refine x_nilw ?_
          exact ⟨rfl, at_ ⟨rfl, rfl, rfl, rfl, rfl, trivial⟩, rfl⟩
      · refine x_neqT (by rfl) (by rfl) (by rfl) m1 ?_
        repeat (first | refine x_move (by rfl) ?_ | refine x_as (by rfl) (by rfl) ?_ | refine x_skip (by rfl) ?_ | refine x_fld (by rfl) (by rfl) FldO.h ?_ | refine x_nilck (by rfl) (by rfl) ?_ | refine x_len (by rfl) (by rfl) ElOf.some ?_ | refine x_ext (by rfl) (by rfl) (by rfl) ?_ | refine x_pickT (by rfl) (by rfl) (by rfl) ?_ | refine x_pickF (by rfl) (by rfl) (by rfl) ?_ | refine x_add (by rfl) (by rfl) (by rfl) (by omega) ?_ | refine x_sub (by rfl) (by rfl) (by rfl) (by omega) ?_ | refine x_not (by rfl) (by rfl) ?_)
        refine w_call (by rfl) (by rfl) (by rfl) (in_range mark w1) ?_
        rintro _ _ ⟨rfl, rfl⟩
        rw [rng_iff.2 ⟨by unfold noM at b1 m1; unfold minT; omega, by omega⟩]
        repeat (first | refine x_move (by rfl) ?_ | refine x_as (by rfl) (by rfl) ?_ | refine x_skip (by rfl) ?_ | refine x_fld (by rfl) (by rfl) FldO.h ?_ | refine x_nilck (by rfl) (by rfl) ?_ | refine x_len (by rfl) (by rfl) ElOf.some ?_ | refine x_ext (by rfl) (by rfl) (by rfl) ?_ | refine x_pickT (by rfl) (by rfl) (by rfl) ?_ | refine x_pickF (by rfl) (by rfl) (by rfl) ?_ | refine x_add (by rfl) (by rfl) (by rfl) (by omega) ?_ | refine x_sub (by rfl) (by rfl) (by rfl) (by omega) ?_ | refine x_not (by rfl) (by rfl) ?_)
        cases shut with
        | true =>
          repeat (first | refine x_move (by rfl) ?_ | refine x_as (by rfl) (by rfl) ?_ | refine x_skip (by rfl) ?_ | refine x_fld (by rfl) (by rfl) FldO.h ?_ | refine x_nilck (by rfl) (by rfl) ?_ | refine x_len (by rfl) (by rfl) ElOf.some ?_ | refine x_ext (by rfl) (by rfl) (by rfl) ?_ | refine x_pickT (by rfl) (by rfl) (by rfl) ?_ | refine x_pickF (by rfl) (by rfl) (by rfl) ?_ | refine x_add (by rfl) (by rfl) (by rfl) (by omega) ?_ | refine x_sub (by rfl) (by rfl) (by rfl) (by omega) ?_ | refine x_not (by rfl) (by rfl) ?_)
          refine x_neq (by rfl) (by rfl) (by rfl) ?_
          repeat (first | refine x_move (by rfl) ?_ | refine x_as (by rfl) (by rfl) ?_ | refine x_skip (by rfl) ?_ | refine x_fld (by rfl) (by rfl) FldO.h ?_ | refine x_nilck (by rfl) (by rfl) ?_ | refine x_len (by rfl) (by rfl) ElOf.some ?_ | refine x_ext (by rfl) (by rfl) (by rfl) ?_ | refine x_pickT (by rfl) (by rfl) (by rfl) ?_ | refine x_pickF (by rfl) (by rfl) (by rfl) ?_ | refine x_add (by rfl) (by rfl) (by rfl) (by omega) ?_ | refine x_sub (by rfl) (by rfl) (by rfl) (by omega) ?_ | refine x_not (by rfl) (by rfl) ?_)
          refine x_nilw ?_
          refine ⟨rfl, ?_, rfl⟩
          rw [Bool.true_and]
          exact at_ ⟨rfl, rfl, rfl, rfl, rfl, trivial⟩
        | false =>
          repeat (first | refine x_move (by rfl) ?_ | refine x_as (by rfl) (by rfl) ?_ | refine x_skip (by rfl) ?_ | refine x_fld (by rfl) (by rfl) FldO.h ?_ | refine x_nilck (by rfl) (by rfl) ?_ | refine x_len (by rfl) (by rfl) ElOf.some ?_ | refine x_ext (by rfl) (by rfl) (by rfl) ?_ | refine x_pickT (by rfl) (by rfl) (by rfl) ?_ | refine x_pickF (by rfl) (by rfl) (by rfl) ?_ | refine x_add (by rfl) (by rfl) (by rfl) (by omega) ?_ | refine x_sub (by rfl) (by rfl) (by rfl) (by omega) ?_ | refine x_not (by rfl) (by rfl) ?_)
          refine x_nilw ?_
          exact ⟨rfl, at_ ⟨rfl, rfl, rfl, rfl, rfl, trivial⟩, rfl⟩
  rintro σ w' ⟨⟨ρ, rfl⟩, rfl⟩
  refine n_then ?_
  refine swp_if (by rfl) (fun hbm => ?_) (fun hbm => swp_skip ?_)
  · (repeat (first | refine swp_seq ?_ | refine swp_block ?_)); refine swp_region (by kernel_rfl) ?_
    repeat (first | refine x_move (by rfl) ?_ | refine x_as (by rfl) (by rfl) ?_ | refine x_skip (by rfl) ?_ | refine x_fld (by rfl) (by rfl) FldO.h ?_ | refine x_nilck (by rfl) (by rfl) ?_ | refine x_len (by rfl) (by rfl) ElOf.some ?_ | refine x_ext (by rfl) (by rfl) (by rfl) ?_ | refine x_pickT (by rfl) (by rfl) (by rfl) ?_ | refine x_pickF (by rfl) (by rfl) (by rfl) ?_ | refine x_add (by rfl) (by rfl) (by rfl) (by omega) ?_ | refine x_sub (by rfl) (by rfl) (by rfl) (by omega) ?_ | refine x_not (by rfl) (by rfl) ?_)
    refine x_nilw ?_
    refine swp_ret ?_; (repeat (first | with_reducible refine r_then ?_ | with_reducible refine r_block ?_ | with_reducible refine r_jump ?_))
    exact post2 rfl rfl rfl ⟨_, rfl, 106, .inr ⟨hc, .inl ⟨rfl, hbm⟩⟩, .inl ⟨by omega, rfl, u1⟩⟩
  (repeat (first | with_reducible refine n_then ?_ | with_reducible refine n_block ?_ | with_reducible refine n_jump ?_))
  have hm1 : noM ≤ mark := by
    by_cases hx : mark < noM
    · exact absurd (.inl hx) hbm
    · omega
  have hm2 : mark ≤ maxT := by
    by_cases hx : maxT < mark
    · exact absurd (.inr (.inl hx)) hbm
    · omega
  (repeat (first | refine swp_seq ?_ | refine swp_block ?_))
  refine PEv.swp_cutQ (fun σ w' => At σ [(1, .int .i64 mark), (2, .bool shut), (3, .slice a0 held.length c0), (10, .pointer (some ⟨bg, 0, none⟩)), (41, .bool (shut && decide (0 < (held.length : Int))))] ∧ w1 = w') ?_ ?_
  · (repeat (first | refine swp_seq ?_ | refine swp_block ?_)); refine swp_region (by kernel_rfl) ?_
    repeat (first | refine x_move (by rfl) ?_ | refine x_as (by rfl) (by rfl) ?_ | refine x_skip (by rfl) ?_ | refine x_fld (by rfl) (by rfl) FldO.h ?_ | refine x_nilck (by rfl) (by rfl) ?_ | refine x_len (by rfl) (by rfl) ElOf.some ?_ | refine x_ext (by rfl) (by rfl) (by rfl) ?_ | refine x_pickT (by rfl) (by rfl) (by rfl) ?_ | refine x_pickF (by rfl) (by rfl) (by rfl) ?_ | refine x_add (by rfl) (by rfl) (by rfl) (by omega) ?_ | refine x_sub (by rfl) (by rfl) (by rfl) (by omega) ?_ | refine x_not (by rfl) (by rfl) ?_)
    cases shut with
    | true =>
      repeat (first | refine x_move (by rfl) ?_ | refine x_as (by rfl) (by rfl) ?_ | refine x_skip (by rfl) ?_ | refine x_fld (by rfl) (by rfl) FldO.h ?_ | refine x_nilck (by rfl) (by rfl) ?_ | refine x_len (by rfl) (by rfl) ElOf.some ?_ | refine x_ext (by rfl) (by rfl) (by rfl) ?_ | refine x_pickT (by rfl) (by rfl) (by rfl) ?_ | refine x_pickF (by rfl) (by rfl) (by rfl) ?_ | refine x_add (by rfl) (by rfl) (by rfl) (by omega) ?_ | refine x_sub (by rfl) (by rfl) (by rfl) (by omega) ?_ | refine x_not (by rfl) (by rfl) ?_)
      refine x_gtr (by rfl) (by rfl) (by rfl) ?_
      repeat (first | refine x_move (by rfl) ?_ | refine x_as (by rfl) (by rfl) ?_ | refine x_skip (by rfl) ?_ | refine x_fld (by rfl) (by rfl) FldO.h ?_ | refine x_nilck (by rfl) (by rfl) ?_ | refine x_len (by rfl) (by rfl) ElOf.some ?_ | refine x_ext (by rfl) (by rfl) (by rfl) ?_ | refine x_pickT (by rfl) (by rfl) (by rfl) ?_ | refine x_pickF (by rfl) (by rfl) (by rfl) ?_ | refine x_add (by rfl) (by rfl) (by rfl) (by omega) ?_ | refine x_sub (by rfl) (by rfl) (by rfl) (by omega) ?_ | refine x_not (by rfl) (by rfl) ?_)
      refine x_nilw ?_
      refine ⟨rfl, ?_, rfl⟩
      rw [Bool.true_and]
      exact at_ ⟨rfl, rfl, rfl, rfl, rfl, trivial⟩
    | false =>
      repeat (first | refine x_move (by rfl) ?_ | refine x_as (by rfl) (by rfl) ?_ | refine x_skip (by rfl) ?_ | refine x_fld (by rfl) (by rfl) FldO.h ?_ | refine x_nilck (by rfl) (by rfl) ?_ | refine x_len (by rfl) (by rfl) ElOf.some ?_ | refine x_ext (by rfl) (by rfl) (by rfl) ?_ | refine x_pickT (by rfl) (by rfl) (by rfl) ?_ | refine x_pickF (by rfl) (by rfl) (by rfl) ?_ | refine x_add (by rfl) (by rfl) (by rfl) (by omega) ?_ | refine x_sub (by rfl) (by rfl) (by rfl) (by omega) ?_ | refine x_not (by rfl) (by rfl) ?_)
      refine x_nilw ?_
      exact ⟨rfl, at_ ⟨rfl, rfl, rfl, rfl, rfl, trivial⟩, rfl⟩
  rintro σ w' ⟨⟨ρ, rfl⟩, rfl⟩
  refine n_then ?_
  refine swp_ifb (by rfl) (fun hs => ?_) (fun hs => swp_skip ?_)
  · (repeat (first | refine swp_seq ?_ | refine swp_block ?_)); refine swp_region (by kernel_rfl) ?_
    repeat (first | refine x_move (by rfl) ?_ | refine x_as (by rfl) (by rfl) ?_ | refine x_skip (by rfl) ?_ | refine x_fld (by rfl) (by rfl) FldO.h ?_ | refine x_nilck (by rfl) (by rfl) ?_ | refine x_len (by rfl) (by rfl) ElOf.some ?_ | refine x_ext (by rfl) (by rfl) (by rfl) ?_ | refine x_pickT (by rfl) (by rfl) (by rfl) ?_ | refine x_pickF (by rfl) (by rfl) (by rfl) ?_ | refine x_add (by rfl) (by rfl) (by rfl) (by omega) ?_ | refine x_sub (by rfl) (by rfl) (by rfl) (by omega) ?_ | refine x_not (by rfl) (by rfl) ?_)
    refine x_nilw ?_
    refine swp_ret ?_; (repeat (first | with_reducible refine r_then ?_ | with_reducible refine r_block ?_ | with_reducible refine r_jump ?_))
    simp only [Bool.and_eq_true, decide_eq_true_eq] at hs
    exact post2 rfl rfl rfl ⟨_, rfl, 107, .inr ⟨hc, .inr ⟨hbm, .inl ⟨rfl, .inl ⟨hs.1, fun e => by rw [e] at hs; simp at hs⟩⟩⟩⟩, .inl ⟨by omega, rfl, u1⟩⟩
  have hns : ¬ (shut = true ∧ held ≠ []) := fun ⟨h1, h2⟩ => by
    rw [h1, Bool.true_and, decide_eq_false_iff_not] at hs
    exact h2 (List.eq_nil_of_length_eq_zero (by omega))
  (repeat (first | with_reducible refine n_then ?_ | with_reducible refine n_block ?_ | with_reducible refine n_jump ?_))
  (repeat (first | refine swp_seq ?_ | refine swp_block ?_)); refine swp_region (by kernel_rfl) ?_
  repeat (first | refine x_move (by rfl) ?_ | refine x_as (by rfl) (by rfl) ?_ | refine x_skip (by rfl) ?_ | refine x_fld (by rfl) (by rfl) FldO.h ?_ | refine x_nilck (by rfl) (by rfl) ?_ | refine x_len (by rfl) (by rfl) ElOf.some ?_ | refine x_ext (by rfl) (by rfl) (by rfl) ?_ | refine x_pickT (by rfl) (by rfl) (by rfl) ?_ | refine x_pickF (by rfl) (by rfl) (by rfl) ?_ | refine x_add (by rfl) (by rfl) (by rfl) (by omega) ?_ | refine x_sub (by rfl) (by rfl) (by rfl) (by omega) ?_ | refine x_not (by rfl) (by rfl) ?_)
  refine w_store (xs := [.int .i64 mark]) (by rfl) (by rfl) (by rfl) (by rfl) SzT.h (by rfl) (by rfl) g1.blk (by simp) ?_
  intro w2 u2 h2 _
  refine x_nilw ?_
  have g2 : Gt w2 bg r bp sp (gR cap mark held 0) 0 := g1.mark (by simp [gR, fresh]) u2 h2
  have ok2 : (gR cap mark held 0).Ok := ⟨by simp only [gR, List.take_zero]; exact List.Pairwise.nil, by simp [gR]; omega, hc.2, hc.1, fun x hx => by simp [gR] at hx, ⟨hm1, hm2⟩⟩
  have u02 : Ext w w2 := u1.trans' u2 fun b hb e => by have := hf1 b (.inl e); omega
  refine swp_fit [(2, .bool shut), (3, .slice a0 held.length c0), (10, .pointer (some ⟨bg, 0, none⟩))] ⟨rfl, rfl, rfl, trivial⟩ fun ρ => ?_
  (repeat (first | refine swp_seq ?_ | refine swp_block ?_)); refine swp_region (by kernel_rfl) ?_
  repeat (first | refine x_move (by rfl) ?_ | refine x_as (by rfl) (by rfl) ?_ | refine x_skip (by rfl) ?_ | refine x_fld (by rfl) (by rfl) FldO.h ?_ | refine x_nilck (by rfl) (by rfl) ?_ | refine x_len (by rfl) (by rfl) ElOf.some ?_ | refine x_ext (by rfl) (by rfl) (by rfl) ?_ | refine x_pickT (by rfl) (by rfl) (by rfl) ?_ | refine x_pickF (by rfl) (by rfl) (by rfl) ?_ | refine x_add (by rfl) (by rfl) (by rfl) (by omega) ?_ | refine x_sub (by rfl) (by rfl) (by rfl) (by omega) ?_ | refine x_not (by rfl) (by rfl) ?_)
  refine x_nilw ?_
  (repeat (first | refine swp_seq ?_ | refine swp_block ?_))
  refine swp_loop (fun (i : Nat) σ w3 => ∃ sp3 N, At σ [(2, .bool shut), (3, .slice a0 held.length c0), (10, .pointer (some ⟨bg, 0, none⟩)), (46, .slice a0 held.length c0), (47, .int .i64 (held.length : Nat)), (48, .int .i64 (i : Nat))] ∧ i ≤ held.length ∧ Gt w3 bg r bp sp3 (gR cap mark held i) N ∧ (gR cap mark held i).Ok ∧ N ≤ i ∧ i ≤ 4096 ∧ (∀ b, gfoot bg r bp sp3 b → w.heap.size ≤ b) ∧ Ext w w3) (fun i => held.length - i) 0 ⟨sp, 0, at_ ⟨rfl, rfl, rfl, rfl, rfl, rfl, trivial⟩, by omega, g2, ok2, by omega, by omega, hf1, u02⟩ ?_
  rintro i σ w3 ⟨sp3, N, ⟨ρ, rfl⟩, hi, g3, ok3, hN, hi4, hf3, u3⟩
  have h3 := h.at u3
  have s3 := u3.size
  (repeat (first | refine swp_seq ?_ | refine swp_block ?_)); refine swp_region (by kernel_rfl) ?_
  repeat (first | refine x_move (by rfl) ?_ | refine x_as (by rfl) (by rfl) ?_ | refine x_skip (by rfl) ?_ | refine x_fld (by rfl) (by rfl) FldO.h ?_ | refine w_load (by rfl) (by rfl) (load_one OneT.h (by assumption) (by rfl)) ?_ | refine x_nilck (by rfl) (by rfl) ?_ | refine x_len (by rfl) (by rfl) ElOf.some ?_ | refine x_iface (by rfl) (by rfl) NIf.h ?_ | refine x_ext (by rfl) (by rfl) (by rfl) ?_ | refine x_pickT (by rfl) (by rfl) (by rfl) ?_ | refine x_pickF (by rfl) (by rfl) (by rfl) ?_ | refine x_add (by rfl) (by rfl) (by rfl) (by omega) ?_ | refine x_sub (by rfl) (by rfl) (by rfl) (by omega) ?_ | refine x_lss (by rfl) (by rfl) (by rfl) ?_ | refine x_geq (by rfl) (by rfl) (by rfl) ?_ | refine x_leq (by rfl) (by rfl) (by rfl) ?_ | refine x_gtr (by rfl) (by rfl) (by rfl) ?_ | refine x_eql (by rfl) (by rfl) (by rfl) ?_ | refine x_neq (by rfl) (by rfl) (by rfl) ?_ | refine x_not (by rfl) (by rfl) ?_)
  refine x_nilw ?_
  (repeat (first | refine swp_seq ?_ | refine swp_block ?_))
  refine swp_if (by rfl) (fun h0 => swp_skip ?_) (fun h0 => ?_)
  · have hi' : i < held.length := by omega
    obtain ⟨x, hx⟩ := nthE hi'
    obtain ⟨b1, o1, d1, he1, -, -⟩ := h.pos (by omega)
    simp only [Value.slice.injEq] at he1
    obtain ⟨rfl, _, rfl⟩ := he1
    (repeat (first | with_reducible refine n_then ?_ | with_reducible refine n_block ?_ | with_reducible refine n_jump ?_))
    (repeat (first | refine swp_seq ?_ | refine swp_block ?_)); refine swp_region (by kernel_rfl) ?_
    repeat (first | refine x_move (by rfl) ?_ | refine x_as (by rfl) (by rfl) ?_ | refine x_skip (by rfl) ?_ | refine x_fld (by rfl) (by rfl) FldO.h ?_ | refine x_nilck (by rfl) (by rfl) ?_ | refine x_len (by rfl) (by rfl) ElOf.some ?_ | refine x_ext (by rfl) (by rfl) (by rfl) ?_ | refine x_pickT (by rfl) (by rfl) (by rfl) ?_ | refine x_pickF (by rfl) (by rfl) (by rfl) ?_ | refine x_add (by rfl) (by rfl) (by rfl) (by omega) ?_ | refine x_sub (by rfl) (by rfl) (by rfl) (by omega) ?_ | refine x_not (by rfl) (by rfl) ?_)
    refine x_idx i (by rfl) (by rfl) (by rfl) ElSz.h rfl hi' ?_
    refine w_load (by rfl) (by rfl) (rd_load ev_len AggT.h h3 hx rfl rfl) ?_
    refine w_alloc (by rfl) (by rfl) ZeroT.h ?_; intro b4 w4 e4 u4 h4
    repeat (first | refine x_move (by rfl) ?_ | refine x_as (by rfl) (by rfl) ?_ | refine x_skip (by rfl) ?_ | refine x_fld (by rfl) (by rfl) FldO.h ?_ | refine x_nilck (by rfl) (by rfl) ?_ | refine x_len (by rfl) (by rfl) ElOf.some ?_ | refine x_ext (by rfl) (by rfl) (by rfl) ?_ | refine x_pickT (by rfl) (by rfl) (by rfl) ?_ | refine x_pickF (by rfl) (by rfl) (by rfl) ?_ | refine x_add (by rfl) (by rfl) (by rfl) (by omega) ?_ | refine x_sub (by rfl) (by rfl) (by rfl) (by omega) ?_ | refine x_not (by rfl) (by rfl) ?_)
    refine w_store (xs := x.cells) (by rfl) (by rfl) (by rfl) (by rfl) SzT.h (by rfl) (by rfl) h4 (by simp) ?_
    intro w5 u5 h5 _
    refine x_nilw ?_
    replace h5 : Blk w5 b4 30 x.cells := h5
    have u35 : Ext w3 w5 := u4.trans' u5 fun b hb e => by have e' : b = b4 := e; omega
    have g5 := g3.at u35
    have r5 := h3.at u35
    have s5 := u35.size
    refine swp_fit [(2, .bool shut), (3, .slice (some ⟨b1, o1, none⟩) held.length c0), (10, .pointer (some ⟨bg, 0, none⟩)), (12, .int .i64 (i : Nat)), (13, .pointer (some ⟨b4, 0, none⟩)), (46, .slice (some ⟨b1, o1, none⟩) held.length c0), (47, .int .i64 (held.length : Nat)), (48, .int .i64 (i : Nat))] ⟨rfl, rfl, rfl, rfl, rfl, rfl, rfl, rfl, trivial⟩ fun ρ => ?_
    (repeat (first | refine swp_seq ?_ | refine swp_block ?_))
    refine PEv.swp_cutQ (fun σ w8 => ∃ bad, At σ [(2, .bool shut), (3, .slice (some ⟨b1, o1, none⟩) held.length c0), (10, .pointer (some ⟨bg, 0, none⟩)), (46, .slice (some ⟨b1, o1, none⟩) held.length c0), (47, .int .i64 (held.length : Nat)), (48, .int .i64 (i : Nat)), (70, .bool bad)] ∧ Ext w w8 ∧ ((bad = true ∧ ¬ Good cap mark held) ∨ (bad = false ∧ i + 1 ≤ 4096 ∧ ∃ sp8 N8, Gt w8 bg r bp sp8 (gR cap mark held (i + 1)) N8 ∧ (gR cap mark held (i + 1)).Ok ∧ N8 ≤ i + 1 ∧ ∀ b, gfoot bg r bp sp8 b → w.heap.size ≤ b))) ?_ ?_
    · have pushed : ∀ w7 w8, Ext w5 w7 → (∀ a ∈ held.take i, elt a x = true) → (∃ sp' N', Gt w8 bg r bp sp' ((gR cap mark held i).push x) N' ∧ N' ≤ N + 1 ∧ Upd (gfoot bg r bp sp3) w7 w8 ∧ ∀ b, gfoot bg r bp sp' b → gfoot bg r bp sp3 b ∨ w7.heap.size ≤ b) → Ext w w8 ∧ ((decide ((gR cap mark held i).pcode x ≠ 0) = true ∧ ¬ Good cap mark held) ∨ (decide ((gR cap mark held i).pcode x ≠ 0) = false ∧ i + 1 ≤ 4096 ∧ ∃ sp8 N8, Gt w8 bg r bp sp8 (gR cap mark held (i + 1)) N8 ∧ (gR cap mark held (i + 1)).Ok ∧ N8 ≤ i + 1 ∧ ∀ b, gfoot bg r bp sp8 b → w.heap.size ≤ b)) := by
        rintro w7 w8 u7 hlt ⟨sp', N', g', hN', u8, hin⟩
        have s7 := u7.size
        refine ⟨((u3.trans u35).trans u7).trans' u8 fun b hb hf => by have := hf3 b hf; omega, ?_⟩
        by_cases hp : (gR cap mark held i).pcode x = 0
        · have ok' := GS.push_ok ok3 x
          rw [gR_push hx hp hlt] at g' ok'
          have hlen := ok'.len'
          simp only [gR, List.length_take] at hlen
          refine .inr ⟨decide_eq_false fun h => h hp, by omega, sp', N', g', ok', by omega, fun b hb => ?_⟩
          rcases hin b hb with hb | hb
          · exact hf3 b hb
          · omega
        · exact .inl ⟨decide_eq_true hp, fun hg => hp (good_push hg hm1 hx)⟩
      (repeat (first | refine swp_seq ?_ | refine swp_block ?_)); refine swp_draw (Ext w5) [15] Mixed.h (by kernel_rfl) (by kernel_rfl) (ext_drew w5) ?_
      repeat (first | refine x_move (by rfl) ?_ | refine x_as (by rfl) (by rfl) ?_ | refine x_skip (by rfl) ?_ | refine x_fld (by rfl) (by rfl) FldO.h ?_ | refine x_nilck (by rfl) (by rfl) ?_ | refine x_len (by rfl) (by rfl) ElOf.some ?_ | refine x_ext (by rfl) (by rfl) (by rfl) ?_ | refine x_pickT (by rfl) (by rfl) (by rfl) ?_ | refine x_pickF (by rfl) (by rfl) (by rfl) ?_ | refine x_add (by rfl) (by rfl) (by rfl) (by omega) ?_ | refine x_sub (by rfl) (by rfl) (by rfl) (by omega) ?_ | refine x_not (by rfl) (by rfl) ?_)
      by_cases hi0 : 0 < i
      · obtain ⟨y, hy⟩ := nthE (L := held) (i := i - 1) (by omega)
        refine x_gtrT (by rfl) (by rfl) (by rfl) (by omega) ?_
        repeat (first | refine x_move (by rfl) ?_ | refine x_as (by rfl) (by rfl) ?_ | refine x_skip (by rfl) ?_ | refine x_fld (by rfl) (by rfl) FldO.h ?_ | refine x_nilck (by rfl) (by rfl) ?_ | refine x_len (by rfl) (by rfl) ElOf.some ?_ | refine x_ext (by rfl) (by rfl) (by rfl) ?_ | refine x_pickT (by rfl) (by rfl) (by rfl) ?_ | refine x_pickF (by rfl) (by rfl) (by rfl) ?_ | refine x_add (by rfl) (by rfl) (by rfl) (by omega) ?_ | refine x_sub (by rfl) (by rfl) (by rfl) (by omega) ?_ | refine x_not (by rfl) (by rfl) ?_)
        refine x_idx (i - 1) (by rfl) (by rfl) (by rfl) ElSz.h (by omega) (by omega) ?_
        refine q_load (by rfl) (by rfl) (by rfl) (fun w' hw' => rd_load ev_len AggT.h (r5.at hw') hy rfl rfl) ?_
        refine q_load (by rfl) (by rfl) (by rfl) (fun w' hw' => load_agg (xs := x.cells) AggT.h (h5.at hw') (by rfl) (by rfl)) ?_
        refine q_call (v := .bool (elt y x)) (by rfl) (by rfl) (by rfl) (fun w' hw' => (event_before y x w').mono fun v w'' h => ⟨h.1, hw'.trans h.2⟩) ?_
        cases hyx : elt y x with
        | false =>
          repeat (first | refine x_move (by rfl) ?_ | refine x_as (by rfl) (by rfl) ?_ | refine x_skip (by rfl) ?_ | refine x_fld (by rfl) (by rfl) FldO.h ?_ | refine x_nilck (by rfl) (by rfl) ?_ | refine x_len (by rfl) (by rfl) ElOf.some ?_ | refine x_ext (by rfl) (by rfl) (by rfl) ?_ | refine x_pickT (by rfl) (by rfl) (by rfl) ?_ | refine x_pickF (by rfl) (by rfl) (by rfl) ?_ | refine x_add (by rfl) (by rfl) (by rfl) (by omega) ?_ | refine x_sub (by rfl) (by rfl) (by rfl) (by omega) ?_ | refine x_not (by rfl) (by rfl) ?_)
          refine x_nil fun w8 u8 => ?_
          refine ⟨rfl, true, at_ ⟨rfl, rfl, rfl, rfl, rfl, rfl, rfl, trivial⟩, (u3.trans u35).trans u8, .inl ⟨rfl, fun hg => ?_⟩⟩
          have hr : Rising elt (held.take (i + 1)) := List.Pairwise.sublist (List.take_sublist _ _) hg.1
          rw [take_succ' hx] at hr
          have := (List.pairwise_append.1 hr).2.2 y (List.mem_of_getLast? (last_take hi0 hy)) x (by simp)
          rw [hyx] at this
          exact Bool.false_ne_true this
        | true =>
          repeat (first | refine x_move (by rfl) ?_ | refine x_as (by rfl) (by rfl) ?_ | refine x_skip (by rfl) ?_ | refine x_fld (by rfl) (by rfl) FldO.h ?_ | refine x_nilck (by rfl) (by rfl) ?_ | refine x_len (by rfl) (by rfl) ElOf.some ?_ | refine x_ext (by rfl) (by rfl) (by rfl) ?_ | refine x_pickT (by rfl) (by rfl) (by rfl) ?_ | refine x_pickF (by rfl) (by rfl) (by rfl) ?_ | refine x_add (by rfl) (by rfl) (by rfl) (by omega) ?_ | refine x_sub (by rfl) (by rfl) (by rfl) (by omega) ?_ | refine x_not (by rfl) (by rfl) ?_)
          refine q_load (by rfl) (by rfl) (by rfl) (fun w' hw' => load_agg (xs := x.cells) AggT.h (h5.at hw') (by rfl) (by rfl)) ?_
          refine x_fix (by rfl) (by rfl) (by rfl) fun w7 u7 => ?_
          refine w_call (by rfl) (by rfl) (by rfl) (g_push x (g5.at u7) ok3 (by omega)) ?_
          rintro _ w8 ⟨rfl, hpsh⟩
          refine x_neq (by rfl) (by rfl) (by rfl) ?_
          repeat (first | refine x_move (by rfl) ?_ | refine x_as (by rfl) (by rfl) ?_ | refine x_skip (by rfl) ?_ | refine x_fld (by rfl) (by rfl) FldO.h ?_ | refine x_nilck (by rfl) (by rfl) ?_ | refine x_len (by rfl) (by rfl) ElOf.some ?_ | refine x_ext (by rfl) (by rfl) (by rfl) ?_ | refine x_pickT (by rfl) (by rfl) (by rfl) ?_ | refine x_pickF (by rfl) (by rfl) (by rfl) ?_ | refine x_add (by rfl) (by rfl) (by rfl) (by omega) ?_ | refine x_sub (by rfl) (by rfl) (by rfl) (by omega) ?_ | refine x_not (by rfl) (by rfl) ?_)
          refine x_nilw ?_
          exact ⟨rfl, _, at_ ⟨rfl, rfl, rfl, rfl, rfl, rfl, rfl, trivial⟩, pushed w7 w8 u7 (rise_snoc ok3.ris fun p hp => by rw [last_take hi0 hy] at hp; injection hp with hp; rw [← hp]; exact hyx) hpsh⟩
      · obtain rfl : i = 0 := by omega
        refine x_gtrF (by rfl) (by rfl) (by rfl) (by omega) ?_
        repeat (first | refine x_move (by rfl) ?_ | refine x_as (by rfl) (by rfl) ?_ | refine x_skip (by rfl) ?_ | refine x_fld (by rfl) (by rfl) FldO.h ?_ | refine x_nilck (by rfl) (by rfl) ?_ | refine x_len (by rfl) (by rfl) ElOf.some ?_ | refine x_ext (by rfl) (by rfl) (by rfl) ?_ | refine x_pickT (by rfl) (by rfl) (by rfl) ?_ | refine x_pickF (by rfl) (by rfl) (by rfl) ?_ | refine x_add (by rfl) (by rfl) (by rfl) (by omega) ?_ | refine x_sub (by rfl) (by rfl) (by rfl) (by omega) ?_ | refine x_not (by rfl) (by rfl) ?_)
        refine q_load (by rfl) (by rfl) (by rfl) (fun w' hw' => load_agg (xs := x.cells) AggT.h (h5.at hw') (by rfl) (by rfl)) ?_
        refine x_fix (by rfl) (by rfl) (by rfl) fun w7 u7 => ?_
        refine w_call (by rfl) (by rfl) (by rfl) (g_push x (g5.at u7) ok3 (by omega)) ?_
        rintro _ w8 ⟨rfl, hpsh⟩
        refine x_neq (by rfl) (by rfl) (by rfl) ?_
        repeat (first | refine x_move (by rfl) ?_ | refine x_as (by rfl) (by rfl) ?_ | refine x_skip (by rfl) ?_ | refine x_fld (by rfl) (by rfl) FldO.h ?_ | refine x_nilck (by rfl) (by rfl) ?_ | refine x_len (by rfl) (by rfl) ElOf.some ?_ | refine x_ext (by rfl) (by rfl) (by rfl) ?_ | refine x_pickT (by rfl) (by rfl) (by rfl) ?_ | refine x_pickF (by rfl) (by rfl) (by rfl) ?_ | refine x_add (by rfl) (by rfl) (by rfl) (by omega) ?_ | refine x_sub (by rfl) (by rfl) (by rfl) (by omega) ?_ | refine x_not (by rfl) (by rfl) ?_)
        refine x_nilw ?_
        exact ⟨rfl, _, at_ ⟨rfl, rfl, rfl, rfl, rfl, rfl, rfl, trivial⟩, pushed w7 w8 u7 (fun a ha => by simp at ha) hpsh⟩
    rintro σ w8 ⟨bad, ⟨ρ, rfl⟩, u8, hbad⟩
    refine n_then ?_
    rcases hbad with ⟨rfl, hng⟩ | ⟨rfl, hi5, sp8, N8, g8, ok8, hN8, hf8⟩
    · refine swp_true (by rfl) ?_
      (repeat (first | refine swp_seq ?_ | refine swp_block ?_)); refine swp_region (by kernel_rfl) ?_
      repeat (first | refine x_move (by rfl) ?_ | refine x_as (by rfl) (by rfl) ?_ | refine x_skip (by rfl) ?_ | refine x_fld (by rfl) (by rfl) FldO.h ?_ | refine x_nilck (by rfl) (by rfl) ?_ | refine x_len (by rfl) (by rfl) ElOf.some ?_ | refine x_ext (by rfl) (by rfl) (by rfl) ?_ | refine x_pickT (by rfl) (by rfl) (by rfl) ?_ | refine x_pickF (by rfl) (by rfl) (by rfl) ?_ | refine x_add (by rfl) (by rfl) (by rfl) (by omega) ?_ | refine x_sub (by rfl) (by rfl) (by rfl) (by omega) ?_ | refine x_not (by rfl) (by rfl) ?_)
      refine x_nilw ?_
      refine swp_ret ?_; (repeat (first | with_reducible refine r_then ?_ | with_reducible refine r_block ?_ | with_reducible refine r_jump ?_))
      exact post2 rfl rfl rfl ⟨_, rfl, 107, .inr ⟨hc, .inr ⟨hbm, .inl ⟨rfl, .inr hng⟩⟩⟩, .inl ⟨by omega, rfl, u8⟩⟩
    refine swp_false (by rfl) (swp_skip ?_)
    (repeat (first | with_reducible refine n_then ?_ | with_reducible refine n_block ?_ | with_reducible refine n_jump ?_))
    (repeat (first | refine swp_seq ?_ | refine swp_block ?_)); refine swp_region (by kernel_rfl) ?_
    repeat (first | refine x_move (by rfl) ?_ | refine x_as (by rfl) (by rfl) ?_ | refine x_skip (by rfl) ?_ | refine x_fld (by rfl) (by rfl) FldO.h ?_ | refine x_nilck (by rfl) (by rfl) ?_ | refine x_len (by rfl) (by rfl) ElOf.some ?_ | refine x_ext (by rfl) (by rfl) (by rfl) ?_ | refine x_pickT (by rfl) (by rfl) (by rfl) ?_ | refine x_pickF (by rfl) (by rfl) (by rfl) ?_ | refine x_add (by rfl) (by rfl) (by rfl) (by omega) ?_ | refine x_sub (by rfl) (by rfl) (by rfl) (by omega) ?_ | refine x_not (by rfl) (by rfl) ?_)
    refine x_nilw ?_
    exact ⟨i + 1, ⟨sp8, N8, at_ ⟨rfl, rfl, rfl, rfl, rfl, rfl, trivial⟩, by omega, g8, ok8, hN8, hi5, hf8, u8⟩, by omega⟩
  · have hin : i = held.length := by omega
    subst hin
    have hS : (gR cap mark held held.length).S = held := by simp [gR]
    refine swp_exit ?_; (repeat (first | with_reducible refine e_then ?_ | with_reducible refine e_jump ?_)); refine e_block ?_; (repeat (first | with_reducible refine n_then ?_ | with_reducible refine n_block ?_ | with_reducible refine n_jump ?_))
    (repeat (first | refine swp_seq ?_ | refine swp_block ?_)); refine swp_region (by kernel_rfl) ?_
    repeat (first | refine x_move (by rfl) ?_ | refine x_as (by rfl) (by rfl) ?_ | refine x_skip (by rfl) ?_ | refine x_fld (by rfl) (by rfl) FldO.h ?_ | refine x_nilck (by rfl) (by rfl) ?_ | refine x_len (by rfl) (by rfl) ElOf.some ?_ | refine x_ext (by rfl) (by rfl) (by rfl) ?_ | refine x_pickT (by rfl) (by rfl) (by rfl) ?_ | refine x_pickF (by rfl) (by rfl) (by rfl) ?_ | refine x_add (by rfl) (by rfl) (by rfl) (by omega) ?_ | refine x_sub (by rfl) (by rfl) (by rfl) (by omega) ?_ | refine x_not (by rfl) (by rfl) ?_)
    refine w_store (xs := [.bool shut]) (by rfl) (by rfl) (by rfl) (by rfl) SzT.h (by rfl) (by rfl) g3.blk (by simp) ?_
    intro w4 u4 h4 _
    refine x_nilw ?_
    (repeat (first | refine swp_seq ?_ | refine swp_block ?_)); refine swp_region (by kernel_rfl) ?_
    repeat (first | refine x_move (by rfl) ?_ | refine x_as (by rfl) (by rfl) ?_ | refine x_skip (by rfl) ?_ | refine x_fld (by rfl) (by rfl) FldO.h ?_ | refine x_nilck (by rfl) (by rfl) ?_ | refine x_len (by rfl) (by rfl) ElOf.some ?_ | refine x_ext (by rfl) (by rfl) (by rfl) ?_ | refine x_pickT (by rfl) (by rfl) (by rfl) ?_ | refine x_pickF (by rfl) (by rfl) (by rfl) ?_ | refine x_add (by rfl) (by rfl) (by rfl) (by omega) ?_ | refine x_sub (by rfl) (by rfl) (by rfl) (by omega) ?_ | refine x_not (by rfl) (by rfl) ?_)
    refine x_nilw ?_
    refine swp_ret ?_; (repeat (first | with_reducible refine r_then ?_ | with_reducible refine r_block ?_ | with_reducible refine r_jump ?_))
    have g4 : Gt w4 bg r bp sp3 ⟨held, cap, mark, shut⟩ N := g3.mark (by rw [hS]) u4 h4
    have ok4 : (GS.mk held cap mark shut).Ok := ⟨by rw [← hS]; exact ok3.ris, by rw [← hS]; exact ok3.len, hc.2, hc.1, fun y hy => ok3.ts y (by rw [hS]; exact hy), ⟨hm1, hm2⟩⟩
    exact post2 rfl rfl rfl ⟨_, rfl, 0, .inr ⟨hc, .inr ⟨hbm, .inr ⟨rfl, hns, ok4.ris, ok4.len, ok4.ts⟩⟩⟩, .inr ⟨rfl, bg, r, bp, sp3, N, rfl, g4, ok4, by omega, hf3, u3.trans' u4 fun b hb e => by have := hf3 b (.inl e); omega⟩⟩
end Go.Proofs.Ytnhecopgecoloaa
