/- The document's own pile of events: Push; a step of a script on both piles. Conditions: fewer than 2^61 things; room. -/
import Derived.Test.YtfcbiclmejeihaaMe
import Derived.Test.YtfcbiclmejeihaaW4
namespace Go.Proofs.Ytfcbiclmejeihaa
open Hp Sx

set_option maxHeartbeats 1000000 in
set_option maxRecDepth 100000 in
theorem m_push {w : World} {bm : Nat} {sl : Value} {L : List Ev} (x : Ev) (h : Md w bm sl L) (hr : Room (L.length + 1) 88) : Gets Try.prog 52 [.pointer (some ⟨bm, 0, none⟩), x.v] w fun v w' => v = .tuple #[] ∧ ∃ sl', Md w' bm sl' (put elt L x) ∧ Upd (fun b => b = bm) w w' ∧ ∀ b, isIn sl' b → w.heap.size ≤ b := by
  refine ⟨GoFn.h, calls_of_swp 13 Try.func52 Try.ntmps52 rfl (Nat.le_of_ble_eq_true rfl) ?_⟩
  (repeat (first | refine swp_seq ?_ | refine swp_block ?_)); refine swp_region (by kernel_rfl) ?_
  refine w_boxA (by rfl) (by rfl) (by rfl) ?_; intro b0 w0 e0 u0 h0
  refine x_nilw ?_
  have hb := h.blk.at u0
  have hbl := h.blk.lt
  (repeat (first | refine swp_seq ?_ | refine swp_block ?_)); refine swp_draw (Ext w0) [6, 9] Mixed.h (by kernel_rfl) (by kernel_rfl) (ext_drew w0) ?_
  repeat (first | refine x_move (by rfl) ?_ | refine x_as (by rfl) (by rfl) ?_ | refine x_skip (by rfl) ?_ | refine x_fld (by rfl) (by rfl) FldO.h ?_ | refine x_nilck (by rfl) (by rfl) ?_ | refine x_len (by rfl) (by rfl) ElOf.some ?_ | refine x_ext (by rfl) (by rfl) (by rfl) ?_ | refine x_pickT (by rfl) (by rfl) (by rfl) ?_ | refine x_pickF (by rfl) (by rfl) (by rfl) ?_ | refine x_add (by rfl) (by rfl) (by rfl) (by omega) ?_ | refine x_sub (by rfl) (by rfl) (by rfl) (by omega) ?_ | refine x_not (by rfl) (by rfl) ?_)
  refine q_load (by rfl) (by rfl) (by rfl) (fun w' hw' => load_one OneT.h (hb.at hw') (by rfl)) ?_
  refine q_load (by rfl) (by rfl) (by rfl) (fun w' hw' => load_agg (xs := x.cells) AggT.h (h0.at hw') (by rfl) (by rfl)) ?_
  refine x_fix (by rfl) (by rfl) (by rfl) fun w1 u1 => ?_
  refine w_call (by rfl) (by rfl) (by rfl) (m_put x (h.rd.at (u0.trans u1)) hr) ?_
  rintro sl' w2 ⟨hown, hfr, u2⟩
  obtain ⟨a', c', rfl⟩ := hown.slice
  have u02 : Ext w w2 := (u0.trans u1).trans u2
  repeat (first | refine x_move (by rfl) ?_ | refine x_as (by rfl) (by rfl) ?_ | refine x_skip (by rfl) ?_ | refine x_fld (by rfl) (by rfl) FldO.h ?_ | refine x_nilck (by rfl) (by rfl) ?_ | refine x_len (by rfl) (by rfl) ElOf.some ?_ | refine x_ext (by rfl) (by rfl) (by rfl) ?_ | refine x_pickT (by rfl) (by rfl) (by rfl) ?_ | refine x_pickF (by rfl) (by rfl) (by rfl) ?_ | refine x_add (by rfl) (by rfl) (by rfl) (by omega) ?_ | refine x_sub (by rfl) (by rfl) (by rfl) (by omega) ?_ | refine x_not (by rfl) (by rfl) ?_)
  refine w_store (xs := [.slice a' (L.length + 1) c']) (by rfl) (by rfl) (by rfl) (by rfl) SzT.h (by rfl) (by rfl) (h.blk.at u02) (by simp) ?_
  intro w3 u3 h3 _
  refine x_nilw ?_
  (repeat (first | with_reducible refine n_then ?_ | with_reducible refine n_block ?_ | with_reducible refine n_jump ?_))
  have hs : ∀ b, isIn (.slice a' (L.length + 1) c') b → w.heap.size ≤ b := fun b hb => by have := hfr b hb; have := (u0.trans u1).size; omega
  refine post0n rfl ⟨_, rfl, rfl, _, ⟨h3, ?_, ⟨a', c', by rw [put_length], by rw [put_length]; exact own_cap hown⟩, fun hb => ?_, fun b hb => ?_⟩, (u02.of _).trans' u3 fun b _ e => e, hs⟩
  · rw [put_length]
    exact hown.rd.get u3 fun b hb e => by have := hs b hb; omega
  · have := hs bm hb; omega
  · have := hown.lt hb; have := u3.size; omega

/-- A step of a script. -/
structure Op' where
  kd : Int
  p : Int
  e : Ev
def Op'.cells (o : Op') : List Value := [.int .i64 o.kd, .int .i64 o.p] ++ o.e.cells
abbrev Op'.v (o : Op') : Value := .agg o.cells.toArray
theorem op_len (o : Op') : o.cells.length = 13 := rfl
theorem op_one (o : Op') : o.cells.all Value.oneCell' = true := rfl
/-- what both piles then hold -/
def does (o : Op') (S : List Ev) : List Ev := if o.kd = 1 then put elt S o.e else if o.kd = 2 then S.tail else S
theorem does_length (o : Op') (S : List Ev) : (does o S).length ≤ S.length + 1 := by
  unfold does
  split
  · rw [put_length]; omega
  · split
    · rw [List.length_tail]; omega
    · omega

/-- both piles, and what may be laid over -/
structure Two (w : World) (bp bm : Nat) (sp sl : Value) (S : List Ev) (N : Nat) : Prop where
  p : PEv.Pile w bp sp S N
  m : Md w bm sl S
  ap : ∀ b, PEv.foot bp sp b → b ≠ bm ∧ ¬ isIn sl b
def feet (bp bm : Nat) (sp sl : Value) (b : Nat) : Prop := PEv.foot bp sp b ∨ b = bm ∨ isIn sl b
theorem Two.get {F : Nat → Prop} {w w' : World} {bp bm : Nat} {sp sl : Value} {S : List Ev} {N : Nat} (h : Two w bp bm sp sl S N) (u : Upd F w w') (hn : ∀ b, feet bp bm sp sl b → ¬ F b) : Two w' bp bm sp sl S N :=
  ⟨h.p.get u fun b hb => hn b (.inl hb), h.m.get u (hn bm (.inr (.inl rfl))) fun b hb => hn b (.inr (.inr hb)), h.ap⟩
theorem Two.lt {w : World} {bp bm : Nat} {sp sl : Value} {S : List Ev} {N : Nat} (h : Two w bp bm sp sl S N) {b : Nat} (hb : feet bp bm sp sl b) : b < w.heap.size := by
  rcases hb with hb | rfl | hb
  · exact h.p.lt hb
  · exact h.m.blk.lt
  · exact h.m.lt b hb
end Go.Proofs.Ytfcbiclmejeihaa
