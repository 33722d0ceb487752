/- A pile of Wt: drain, Sorted, Sort. Conditions: fewer than 2^60 things; room for what grows. -/
import Derived.Test.YtpnigekkbmanlaaPWtc
namespace Go.Proofs.Ytpnigekkbmanlaa.PWt
open Sx Hp

theorem tc_len (x : Wt) : x.cells.length = 5 := rfl
theorem tc_one (x : Wt) : x.cells.all Value.oneCell' = true := rfl
theorem fl_one' {α : Type} {enc : α → List Value} (h : ∀ a, (enc a).all Value.oneCell' = true) : ∀ L : List α, (fl enc L).all Value.oneCell' = true
  | [] => rfl
  | x :: L => by rw [fl_cons, List.all_append, h x, fl_one' h L]; rfl

/-- what Pop answers -/
def popV : List Wt → Value
  | [] => .tuple #[Wt.zero.v, .bool false]
  | x :: _ => .tuple #[x.v, .bool true]
theorem pop (ho : Ord wlt) {w : World} {bp : Nat} {sv : Value} {S : List Wt} {N : Nat} (hp : Pile w bp sv S N) (hl : S.length ≤ 2305843009213693951) (hV : ∀ y ∈ S, Apt (foot bp sv) w y) :
    Gets Try.prog 53 [.pointer (some ⟨bp, 0, none⟩)] w fun v w' => v = popV S ∧ ∃ sv', Pile w' bp sv' S.tail N ∧ Upd (foot bp sv) w w' ∧ ∀ b, isIn sv' b → isIn sv b := by
  cases S with
  | nil => exact (pop_nil hp).mono fun v w' h => ⟨h.1, sv, hp.at h.2, h.2.of _, fun b hb => hb⟩
  | cons x S => exact (pop_cons ho hp (by simp at hl; omega) hV).mono fun v w' h => h

/-- where drain stands: out is done, todo is to come -/
def DI (bp : Nat) (w0 : World) (sv0 : Value) (S : List Wt) (N : Nat) (i : List Wt × List Wt) (σ : Fr) (w : World) : Prop :=
  ∃ out b4 sv, At σ [(0, .pointer (some ⟨bp, 0, none⟩)), (3, out), (4, .pointer (some ⟨b4, 0, none⟩)), (5, .bool !i.2.isEmpty)] ∧ i.1 ++ i.2 = S ∧ Own w 82 5 out i.1.length (fl Wt.cells i.1) ∧ (∀ b, isIn out b → w0.heap.size ≤ b ∧ b ≠ b4) ∧
    Blk w b4 82 ((i.2.head?.getD Wt.zero).cells) ∧ w0.heap.size ≤ b4 ∧ Pile w bp sv i.2.tail N ∧ Upd (foot bp sv0) w0 w ∧ (∀ b, isIn sv b → isIn sv0 b)

set_option maxHeartbeats 1000000 in
set_option maxRecDepth 100000 in
theorem drain (ho : Ord wlt) {w : World} {bp : Nat} {sv : Value} {S : List Wt} {N : Nat} (hp : Pile w bp sv S N) (hr : Room S.length 104) (hl : S.length ≤ 2305843009213693951) (hV : ∀ y ∈ S, Apt (foot bp sv) w y) :
    Gets Try.prog 63 [.pointer (some ⟨bp, 0, none⟩)] w fun v w' => Own w' 82 5 v S.length (fl Wt.cells S) ∧ (∀ b, isIn v b → w.heap.size ≤ b) ∧ ∃ sv', Pile w' bp sv' [] N ∧ Upd (foot bp sv) w w' ∧ ∀ b, isIn sv' b → isIn sv b := by
  have hflt : ∀ b, foot bp sv b → b < w.heap.size := fun b hb => hp.lt hb
  refine ⟨GoFn.h, calls_of_swp 26 Try.func63 Try.ntmps63 rfl (Nat.le_of_ble_eq_true rfl) ?_⟩
  (repeat (first | refine swp_seq ?_ | refine swp_block ?_)); refine swp_region (by kernel_rfl) ?_
  repeat (first | refine x_move (by rfl) ?_ | refine x_as (by rfl) (by rfl) ?_ | refine x_skip (by rfl) ?_ | refine x_fld (by rfl) (by rfl) FldO.h ?_ | refine w_load (by rfl) (by rfl) (load_one OneT.h (by assumption) (by rfl)) ?_ | refine x_nilck (by rfl) (by rfl) ?_ | refine x_len (by rfl) (by rfl) ElOf.some ?_ | refine x_iface (by rfl) (by rfl) NIf.h ?_ | refine x_ext (by rfl) (by rfl) (by rfl) ?_ | refine x_pickT (by rfl) (by rfl) (by rfl) ?_ | refine x_pickF (by rfl) (by rfl) (by rfl) ?_ | refine x_add (by rfl) (by rfl) (by rfl) (by omega) ?_ | refine x_sub (by rfl) (by rfl) (by rfl) (by omega) ?_ | refine x_lss (by rfl) (by rfl) (by rfl) ?_ | refine x_geq (by rfl) (by rfl) (by rfl) ?_ | refine x_leq (by rfl) (by rfl) (by rfl) ?_ | refine x_gtr (by rfl) (by rfl) (by rfl) ?_ | refine x_eql (by rfl) (by rfl) (by rfl) ?_ | refine x_neq (by rfl) (by rfl) (by rfl) ?_ | refine x_not (by rfl) (by rfl) ?_)
  refine x_nilw ?_
  (repeat (first | refine swp_seq ?_ | refine swp_block ?_)); refine swp_region (by kernel_rfl) ?_
  repeat (first | refine x_move (by rfl) ?_ | refine x_as (by rfl) (by rfl) ?_ | refine x_skip (by rfl) ?_ | refine x_fld (by rfl) (by rfl) FldO.h ?_ | refine w_load (by rfl) (by rfl) (load_one OneT.h (by assumption) (by rfl)) ?_ | refine x_nilck (by rfl) (by rfl) ?_ | refine x_len (by rfl) (by rfl) ElOf.some ?_ | refine x_iface (by rfl) (by rfl) NIf.h ?_ | refine x_ext (by rfl) (by rfl) (by rfl) ?_ | refine x_pickT (by rfl) (by rfl) (by rfl) ?_ | refine x_pickF (by rfl) (by rfl) (by rfl) ?_ | refine x_add (by rfl) (by rfl) (by rfl) (by omega) ?_ | refine x_sub (by rfl) (by rfl) (by rfl) (by omega) ?_ | refine x_lss (by rfl) (by rfl) (by rfl) ?_ | refine x_geq (by rfl) (by rfl) (by rfl) ?_ | refine x_leq (by rfl) (by rfl) (by rfl) ?_ | refine x_gtr (by rfl) (by rfl) (by rfl) ?_ | refine x_eql (by rfl) (by rfl) (by rfl) ?_ | refine x_neq (by rfl) (by rfl) (by rfl) ?_ | refine x_not (by rfl) (by rfl) ?_)
  refine w_call (by rfl) (by rfl) (by rfl) (len hp) ?_
  rintro _ _ ⟨rfl, rfl⟩
  refine w_make 0 S.length (by rfl) (by rfl) (by rfl) (by rfl) SlC.h ZeroT.h (by rfl) rfl (by omega) hr ?_
  intro b1 w1 e1 u1 h1
  repeat (first | refine x_move (by rfl) ?_ | refine x_as (by rfl) (by rfl) ?_ | refine x_skip (by rfl) ?_ | refine x_fld (by rfl) (by rfl) FldO.h ?_ | refine w_load (by rfl) (by rfl) (load_one OneT.h (by assumption) (by rfl)) ?_ | refine x_nilck (by rfl) (by rfl) ?_ | refine x_len (by rfl) (by rfl) ElOf.some ?_ | refine x_iface (by rfl) (by rfl) NIf.h ?_ | refine x_ext (by rfl) (by rfl) (by rfl) ?_ | refine x_pickT (by rfl) (by rfl) (by rfl) ?_ | refine x_pickF (by rfl) (by rfl) (by rfl) ?_ | refine x_add (by rfl) (by rfl) (by rfl) (by omega) ?_ | refine x_sub (by rfl) (by rfl) (by rfl) (by omega) ?_ | refine x_lss (by rfl) (by rfl) (by rfl) ?_ | refine x_geq (by rfl) (by rfl) (by rfl) ?_ | refine x_leq (by rfl) (by rfl) (by rfl) ?_ | refine x_gtr (by rfl) (by rfl) (by rfl) ?_ | refine x_eql (by rfl) (by rfl) (by rfl) ?_ | refine x_neq (by rfl) (by rfl) (by rfl) ?_ | refine x_not (by rfl) (by rfl) ?_)
  refine x_nilw ?_
  have hp1 := hp.at u1
  have own1 : Own w1 82 5 (.slice (some ⟨b1, 0, none⟩) 0 S.length) 0 [] := Own.of (rest := (madeCells (List.toArray Wt.zero.cells) (S.length * 5)).toList) (by simp) h1 (by omega) (by have := hr.1; simp only [maxLen]; omega) (by simp [size_madeCells])
  (repeat (first | refine swp_seq ?_ | refine swp_block ?_)); refine swp_region (by kernel_rfl) ?_
  repeat (first | refine x_move (by rfl) ?_ | refine x_as (by rfl) (by rfl) ?_ | refine x_skip (by rfl) ?_ | refine x_fld (by rfl) (by rfl) FldO.h ?_ | refine w_load (by rfl) (by rfl) (load_one OneT.h (by assumption) (by rfl)) ?_ | refine x_nilck (by rfl) (by rfl) ?_ | refine x_len (by rfl) (by rfl) ElOf.some ?_ | refine x_iface (by rfl) (by rfl) NIf.h ?_ | refine x_ext (by rfl) (by rfl) (by rfl) ?_ | refine x_pickT (by rfl) (by rfl) (by rfl) ?_ | refine x_pickF (by rfl) (by rfl) (by rfl) ?_ | refine x_add (by rfl) (by rfl) (by rfl) (by omega) ?_ | refine x_sub (by rfl) (by rfl) (by rfl) (by omega) ?_ | refine x_lss (by rfl) (by rfl) (by rfl) ?_ | refine x_geq (by rfl) (by rfl) (by rfl) ?_ | refine x_leq (by rfl) (by rfl) (by rfl) ?_ | refine x_gtr (by rfl) (by rfl) (by rfl) ?_ | refine x_eql (by rfl) (by rfl) (by rfl) ?_ | refine x_neq (by rfl) (by rfl) (by rfl) ?_ | refine x_not (by rfl) (by rfl) ?_)
  refine w_call (by rfl) (by rfl) (by rfl) (pop ho hp1 hl fun y hy => (hV y hy).get (u1.of _) fun _ _ h => h) ?_
  rintro _ w2 ⟨rfl, sv2, hp2, u2, hin2⟩
  have hn1 : ¬ foot bp sv b1 := fun h => by have := hflt b1 h; omega
  replace own1 := own1.get u2 (fun b hb h => hn1 (by have : b = b1 := hb; subst this; exact h))
  have htup : ∃ x ok, popV S = .tuple #[.agg ((Wt.cells x)).toArray, .bool ok] ∧ x = S.head?.getD Wt.zero ∧ ok = !S.isEmpty := by
    cases S with
    | nil => exact ⟨_, _, rfl, rfl, rfl⟩
    | cons x S => exact ⟨_, _, rfl, rfl, rfl⟩
  obtain ⟨x, ok, hx, rfl, rfl⟩ := htup
  rw [hx]
  refine x_move (by rfl) ?_
  refine x_ext (by rfl) (by rfl) (by rfl) ?_
  refine x_ext (by rfl) (by rfl) (by rfl) ?_
  refine w_alloc (by rfl) (by rfl) ZeroT.h ?_; intro b3 w3 e3 u3 h3
  refine w_store (xs := (S.head?.getD Wt.zero).cells) (by rfl) (by rfl) (by rfl) (by rfl) SzT.h (by rfl) (by rfl) h3 (by simp) ?_
  intro w4 u4 h4 _
  refine x_as (by rfl) (by rfl) ?_
  refine x_nilw ?_
  have hs12 := u1.size; have hs23 := u2.size; have hs34 := u3.size
  have hb1lt := own1.lt (b := b1) rfl
  have hn3 : b3 ≠ b1 := by omega
  have uu : Upd (foot bp sv) w w4 := (((u1.of _).trans u2).ext u3).trans' u4 (fun b hb e => by subst e; omega)
  (repeat (first | refine swp_seq ?_ | refine swp_block ?_))
  · refine swp_loop (DI bp w sv S N) (fun i => i.2.length) ([], S) ⟨.slice (some ⟨b1, 0, none⟩) 0 S.length, b3, sv2, at_ ⟨rfl, rfl, rfl, rfl, trivial⟩, rfl, ?_, fun b hb => ?_, h4, by omega, ?_, uu, hin2⟩ ?_
    · exact (own1.at u3).get u4 (fun b hb e => by have h1 : b = b1 := hb; have h2 : b = b3 := e; omega)
    · have : b = b1 := hb
      subst this
      exact ⟨by omega, by omega⟩
    · exact (hp2.at u3).get u4 (fun b hb e => by
        have h2 : b = b3 := e
        rw [h2] at hb
        have : b3 < w.heap.size := by
          rcases hb with h | h
          · exact hflt b3 (.inl h)
          · exact hflt b3 (.inr (hin2 b3 h))
        omega)
    · rintro ⟨done, todo⟩ σ w5 ⟨out, b4, sv5, ⟨ρ, rfl⟩, hS, hown, hout, hb4, hb4w, hp5, u5, hin5⟩
      simp only at hS hown hb4 hp5
      cases todo with
      | nil =>
        (repeat (first | refine swp_seq ?_ | refine swp_block ?_)); refine swp_region (by kernel_rfl) ?_
        repeat (first | refine x_move (by rfl) ?_ | refine x_as (by rfl) (by rfl) ?_ | refine x_skip (by rfl) ?_ | refine x_fld (by rfl) (by rfl) FldO.h ?_ | refine w_load (by rfl) (by rfl) (load_one OneT.h (by assumption) (by rfl)) ?_ | refine x_nilck (by rfl) (by rfl) ?_ | refine x_len (by rfl) (by rfl) ElOf.some ?_ | refine x_iface (by rfl) (by rfl) NIf.h ?_ | refine x_ext (by rfl) (by rfl) (by rfl) ?_ | refine x_pickT (by rfl) (by rfl) (by rfl) ?_ | refine x_pickF (by rfl) (by rfl) (by rfl) ?_ | refine x_add (by rfl) (by rfl) (by rfl) (by omega) ?_ | refine x_sub (by rfl) (by rfl) (by rfl) (by omega) ?_ | refine x_lss (by rfl) (by rfl) (by rfl) ?_ | refine x_geq (by rfl) (by rfl) (by rfl) ?_ | refine x_leq (by rfl) (by rfl) (by rfl) ?_ | refine x_gtr (by rfl) (by rfl) (by rfl) ?_ | refine x_eql (by rfl) (by rfl) (by rfl) ?_ | refine x_neq (by rfl) (by rfl) (by rfl) ?_ | refine x_not (by rfl) (by rfl) ?_)
        refine x_nilw ?_
        (repeat (first | refine swp_seq ?_ | refine swp_block ?_))
        refine swp_false (by rfl) ?_
        refine swp_exit ?_; (repeat (first | with_reducible refine e_then ?_ | with_reducible refine e_jump ?_)); refine e_block ?_; (repeat (first | with_reducible refine n_then ?_ | with_reducible refine n_block ?_ | with_reducible refine n_jump ?_))
        (repeat (first | refine swp_seq ?_ | refine swp_block ?_)); refine swp_region (by kernel_rfl) ?_
        repeat (first | refine x_move (by rfl) ?_ | refine x_as (by rfl) (by rfl) ?_ | refine x_skip (by rfl) ?_ | refine x_fld (by rfl) (by rfl) FldO.h ?_ | refine w_load (by rfl) (by rfl) (load_one OneT.h (by assumption) (by rfl)) ?_ | refine x_nilck (by rfl) (by rfl) ?_ | refine x_len (by rfl) (by rfl) ElOf.some ?_ | refine x_iface (by rfl) (by rfl) NIf.h ?_ | refine x_ext (by rfl) (by rfl) (by rfl) ?_ | refine x_pickT (by rfl) (by rfl) (by rfl) ?_ | refine x_pickF (by rfl) (by rfl) (by rfl) ?_ | refine x_add (by rfl) (by rfl) (by rfl) (by omega) ?_ | refine x_sub (by rfl) (by rfl) (by rfl) (by omega) ?_ | refine x_lss (by rfl) (by rfl) (by rfl) ?_ | refine x_geq (by rfl) (by rfl) (by rfl) ?_ | refine x_leq (by rfl) (by rfl) (by rfl) ?_ | refine x_gtr (by rfl) (by rfl) (by rfl) ?_ | refine x_eql (by rfl) (by rfl) (by rfl) ?_ | refine x_neq (by rfl) (by rfl) (by rfl) ?_ | refine x_not (by rfl) (by rfl) ?_)
        refine x_nilw ?_
        refine swp_ret ?_; (repeat (first | with_reducible refine r_then ?_ | with_reducible refine r_block ?_ | with_reducible refine r_jump ?_))
        simp only [List.append_nil] at hS
        subst hS
        exact post1 rfl rfl ⟨_, rfl, hown, fun b hb => (hout b hb).1, sv5, hp5, u5, hin5⟩
      | cons x todo =>
        have hb4' : Blk w5 b4 82 x.cells := hb4
        have hlS : S.length = done.length + (todo.length + 1) := by rw [← hS, List.length_append, List.length_cons]
        have hp5' : Pile w5 bp sv5 todo N := hp5
        (repeat (first | refine swp_seq ?_ | refine swp_block ?_)); refine swp_region (by kernel_rfl) ?_
        repeat (first | refine x_move (by rfl) ?_ | refine x_as (by rfl) (by rfl) ?_ | refine x_skip (by rfl) ?_ | refine x_fld (by rfl) (by rfl) FldO.h ?_ | refine w_load (by rfl) (by rfl) (load_one OneT.h (by assumption) (by rfl)) ?_ | refine x_nilck (by rfl) (by rfl) ?_ | refine x_len (by rfl) (by rfl) ElOf.some ?_ | refine x_iface (by rfl) (by rfl) NIf.h ?_ | refine x_ext (by rfl) (by rfl) (by rfl) ?_ | refine x_pickT (by rfl) (by rfl) (by rfl) ?_ | refine x_pickF (by rfl) (by rfl) (by rfl) ?_ | refine x_add (by rfl) (by rfl) (by rfl) (by omega) ?_ | refine x_sub (by rfl) (by rfl) (by rfl) (by omega) ?_ | refine x_lss (by rfl) (by rfl) (by rfl) ?_ | refine x_geq (by rfl) (by rfl) (by rfl) ?_ | refine x_leq (by rfl) (by rfl) (by rfl) ?_ | refine x_gtr (by rfl) (by rfl) (by rfl) ?_ | refine x_eql (by rfl) (by rfl) (by rfl) ?_ | refine x_neq (by rfl) (by rfl) (by rfl) ?_ | refine x_not (by rfl) (by rfl) ?_)
        refine x_nilw ?_
        (repeat (first | refine swp_seq ?_ | refine swp_block ?_))
        refine swp_true (by rfl) (swp_skip ?_)
        (repeat (first | with_reducible refine n_then ?_ | with_reducible refine n_block ?_ | with_reducible refine n_jump ?_))
        (repeat (first | refine swp_seq ?_ | refine swp_block ?_)); refine swp_region (by kernel_rfl) ?_
        repeat (first | refine x_move (by rfl) ?_ | refine x_as (by rfl) (by rfl) ?_ | refine x_skip (by rfl) ?_ | refine x_fld (by rfl) (by rfl) FldO.h ?_ | refine w_load (by rfl) (by rfl) (load_one OneT.h (by assumption) (by rfl)) ?_ | refine x_nilck (by rfl) (by rfl) ?_ | refine x_len (by rfl) (by rfl) ElOf.some ?_ | refine x_iface (by rfl) (by rfl) NIf.h ?_ | refine x_ext (by rfl) (by rfl) (by rfl) ?_ | refine x_pickT (by rfl) (by rfl) (by rfl) ?_ | refine x_pickF (by rfl) (by rfl) (by rfl) ?_ | refine x_add (by rfl) (by rfl) (by rfl) (by omega) ?_ | refine x_sub (by rfl) (by rfl) (by rfl) (by omega) ?_ | refine x_lss (by rfl) (by rfl) (by rfl) ?_ | refine x_geq (by rfl) (by rfl) (by rfl) ?_ | refine x_leq (by rfl) (by rfl) (by rfl) ?_ | refine x_gtr (by rfl) (by rfl) (by rfl) ?_ | refine x_eql (by rfl) (by rfl) (by rfl) ?_ | refine x_neq (by rfl) (by rfl) (by rfl) ?_ | refine x_not (by rfl) (by rfl) ?_)
        refine w_load (by rfl) (by rfl) (load_agg (xs := x.cells) AggT.h hb4' (by rfl) (by rfl)) ?_
        refine w_bslice (e := 82) (cs := x.cells) (by rfl) (by rfl) (by rfl) (by kernel_rfl) ?_
        intro b6 w6 e6 u6 h6
        refine w_append (more := []) (news := x.cells) (by rfl) (by rfl) (by rfl) (by rfl) SlC.h (hown.at u6) (by rw [List.append_nil]; exact h6) (by rfl) (by rfl) (by omega) (hr.le (by omega)) ?_
        intro out' w7 hown7 u7 hin7
        rw [show fl Wt.cells done ++ x.cells = fl Wt.cells (done ++ [x]) by rw [fl_append, fl_one]] at hown7
        repeat (first | refine x_move (by rfl) ?_ | refine x_as (by rfl) (by rfl) ?_ | refine x_skip (by rfl) ?_ | refine x_fld (by rfl) (by rfl) FldO.h ?_ | refine w_load (by rfl) (by rfl) (load_one OneT.h (by assumption) (by rfl)) ?_ | refine x_nilck (by rfl) (by rfl) ?_ | refine x_len (by rfl) (by rfl) ElOf.some ?_ | refine x_iface (by rfl) (by rfl) NIf.h ?_ | refine x_ext (by rfl) (by rfl) (by rfl) ?_ | refine x_pickT (by rfl) (by rfl) (by rfl) ?_ | refine x_pickF (by rfl) (by rfl) (by rfl) ?_ | refine x_add (by rfl) (by rfl) (by rfl) (by omega) ?_ | refine x_sub (by rfl) (by rfl) (by rfl) (by omega) ?_ | refine x_lss (by rfl) (by rfl) (by rfl) ?_ | refine x_geq (by rfl) (by rfl) (by rfl) ?_ | refine x_leq (by rfl) (by rfl) (by rfl) ?_ | refine x_gtr (by rfl) (by rfl) (by rfl) ?_ | refine x_eql (by rfl) (by rfl) (by rfl) ?_ | refine x_neq (by rfl) (by rfl) (by rfl) ?_ | refine x_not (by rfl) (by rfl) ?_)
        refine x_nilw ?_
        (repeat (first | with_reducible refine n_then ?_ | with_reducible refine n_block ?_ | with_reducible refine n_jump ?_))
        have hfo : ∀ b, foot bp sv5 b → ¬ isIn out b := fun b hb ho => by
          have h1 := (hout b ho).1
          rcases hb with h | h
          · have := hflt b (.inl h); omega
          · have := hflt b (.inr (hin5 b h)); omega
        have hb47 := (hb4'.at u6).get u7 (fun h => (hout b4 h).2 rfl)
        have hp7 := (hp5'.at u6).get u7 hfo
        (repeat (first | refine swp_seq ?_ | refine swp_block ?_)); refine swp_region (by kernel_rfl) ?_
        refine w_load (by rfl) (by rfl) (load_agg (xs := x.cells) AggT.h hb47 (by rfl) (by rfl)) ?_
        refine x_nilw ?_
        (repeat (first | refine swp_seq ?_ | refine swp_block ?_)); refine swp_region (by kernel_rfl) ?_
        refine w_alloc (by rfl) (by rfl) ZeroT.h ?_; intro b8 w8 e8 u8 h8
        refine w_store (xs := x.cells) (by rfl) (by rfl) (by rfl) (by rfl) SzT.h (by rfl) (by rfl) h8 (by simp) ?_
        intro w9 u9 h9 _
        refine x_nilw ?_
        (repeat (first | with_reducible refine n_then ?_ | with_reducible refine n_block ?_ | with_reducible refine n_jump ?_))
        have hs0 := u5.size; have hs6 := u6.size; have hs7 := u7.size; have hs8 := u8.size; have hs9 := u9.size
        have hfb : ∀ b, foot bp sv5 b → b < w.heap.size := fun b hb => by
          rcases hb with h | h
          · exact hflt b (.inl h)
          · exact hflt b (.inr (hin5 b h))
        have hp9 := (hp7.at u8).get u9 (fun b hb e => by have := hfb b hb; have e' : b = b8 := e; omega)
        have hout8 : ∀ b, isIn out' b → w.heap.size ≤ b ∧ b ≠ b8 := fun b hb => by
          have hlt := hown7.lt hb
          refine ⟨?_, by omega⟩
          rcases hin7 b hb with h | h
          · exact (hout b h).1
          · omega
        have hown9 := (hown7.at u8).get u9 (fun b hb e => (hout8 b hb).2 e)
        have h9' : Blk w9 b8 82 x.cells := h9
        (repeat (first | refine swp_seq ?_ | refine swp_block ?_)); refine swp_region (by kernel_rfl) ?_
        repeat (first | refine x_move (by rfl) ?_ | refine x_as (by rfl) (by rfl) ?_ | refine x_skip (by rfl) ?_ | refine x_fld (by rfl) (by rfl) FldO.h ?_ | refine w_load (by rfl) (by rfl) (load_one OneT.h (by assumption) (by rfl)) ?_ | refine x_nilck (by rfl) (by rfl) ?_ | refine x_len (by rfl) (by rfl) ElOf.some ?_ | refine x_iface (by rfl) (by rfl) NIf.h ?_ | refine x_ext (by rfl) (by rfl) (by rfl) ?_ | refine x_pickT (by rfl) (by rfl) (by rfl) ?_ | refine x_pickF (by rfl) (by rfl) (by rfl) ?_ | refine x_add (by rfl) (by rfl) (by rfl) (by omega) ?_ | refine x_sub (by rfl) (by rfl) (by rfl) (by omega) ?_ | refine x_lss (by rfl) (by rfl) (by rfl) ?_ | refine x_geq (by rfl) (by rfl) (by rfl) ?_ | refine x_leq (by rfl) (by rfl) (by rfl) ?_ | refine x_gtr (by rfl) (by rfl) (by rfl) ?_ | refine x_eql (by rfl) (by rfl) (by rfl) ?_ | refine x_neq (by rfl) (by rfl) (by rfl) ?_ | refine x_not (by rfl) (by rfl) ?_)
        have u59 : Upd (foot bp sv) w w9 := ((((u5.ext u6).trans' u7 fun b hb h => by have := (hout b h).1; omega).ext u8).trans' u9 fun b hb e => by have e' : b = b8 := e; omega)
        refine w_call (by rfl) (by rfl) (by rfl) (pop ho hp9 (by omega) fun y hy => ((hV y (by rw [← hS]; simp [hy])).get u59 fun _ _ h => h).mono fun b _ h => ?_) ?_
        · rcases h with h | h
          · exact .inl h
          · exact .inr (hin5 b h)
        rintro _ w10 ⟨rfl, sv10, hp10, u10, hin10⟩
        have htup : ∃ y ok, popV todo = .tuple #[.agg (Wt.cells y).toArray, .bool ok] ∧ y = todo.head?.getD Wt.zero ∧ ok = !todo.isEmpty := by
          cases todo with
          | nil => exact ⟨_, _, rfl, rfl, rfl⟩
          | cons y S => exact ⟨_, _, rfl, rfl, rfl⟩
        obtain ⟨y, ok, hy, rfl, rfl⟩ := htup
        rw [hy]
        refine x_move (by rfl) ?_
        refine x_ext (by rfl) (by rfl) (by rfl) ?_
        refine x_ext (by rfl) (by rfl) (by rfl) ?_
        have hn8 : ¬ foot bp sv5 b8 := fun h => by have := hfb b8 h; omega
        refine w_store (xs := (todo.head?.getD Wt.zero).cells) (by rfl) (by rfl) (by rfl) (by rfl) SzT.h (by rfl) (by rfl) (h9'.get u10 hn8) (by simp [tc_len]) ?_
        intro w11 u11 h11 _
        repeat (first | refine x_move (by rfl) ?_ | refine x_as (by rfl) (by rfl) ?_ | refine x_skip (by rfl) ?_ | refine x_fld (by rfl) (by rfl) FldO.h ?_ | refine w_load (by rfl) (by rfl) (load_one OneT.h (by assumption) (by rfl)) ?_ | refine x_nilck (by rfl) (by rfl) ?_ | refine x_len (by rfl) (by rfl) ElOf.some ?_ | refine x_iface (by rfl) (by rfl) NIf.h ?_ | refine x_ext (by rfl) (by rfl) (by rfl) ?_ | refine x_pickT (by rfl) (by rfl) (by rfl) ?_ | refine x_pickF (by rfl) (by rfl) (by rfl) ?_ | refine x_add (by rfl) (by rfl) (by rfl) (by omega) ?_ | refine x_sub (by rfl) (by rfl) (by rfl) (by omega) ?_ | refine x_lss (by rfl) (by rfl) (by rfl) ?_ | refine x_geq (by rfl) (by rfl) (by rfl) ?_ | refine x_leq (by rfl) (by rfl) (by rfl) ?_ | refine x_gtr (by rfl) (by rfl) (by rfl) ?_ | refine x_eql (by rfl) (by rfl) (by rfl) ?_ | refine x_neq (by rfl) (by rfl) (by rfl) ?_ | refine x_not (by rfl) (by rfl) ?_)
        refine x_nilw ?_
        have hs10 := u10.size
        refine ⟨(done ++ [x], todo), ⟨out', b8, sv10, at_ ⟨rfl, rfl, rfl, rfl, trivial⟩, by simpa using hS, ?_, hout8, h11, by omega, ?_, ?_, fun b hb => hin5 b (hin10 b hb)⟩, by simp⟩
        · rw [List.length_append, List.length_singleton]
          exact (hown9.get u10 (fun b hb h => by
            have := (hout8 b hb).1
            have := hfb b h
            omega)).get u11 (fun b hb e => (hout8 b hb).2 e)
        · exact hp10.get u11 (fun b hb e => by
            have e' : b = b8 := e
            subst e'
            rcases hb with h | h
            · exact hn8 (.inl h)
            · exact hn8 (.inr (hin10 _ h)))
        · refine (((((u5.ext u6).trans' u7 ?_).ext u8).trans' u9 ?_).trans' u10 ?_).trans' u11 ?_
          · intro b hb h; have := (hout b h).1; omega
          · intro b hb e; have e' : b = b8 := e; omega
          · intro b _ h
            rcases h with h | h
            · exact .inl h
            · exact .inr (hin5 b h)
          · intro b hb e; have e' : b = b8 := e; omega
end Go.Proofs.Ytpnigekkbmanlaa.PWt
