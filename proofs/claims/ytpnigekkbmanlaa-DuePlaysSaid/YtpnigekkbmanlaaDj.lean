/- The document's Due (layer 14): what waits stands in a list, in its order. Conditions: what is read; room. -/
import Derived.Test.YtpnigekkbmanlaaTx
import Derived.Test.YtpnigekkbmanlaaRb
import Derived.Test.YtpnigekkbmanlaaRm
import Derived.Test.YtpnigekkbmanlaaD10
namespace Go.Proofs.Ytpnigekkbmanlaa
open Sx Hp

structure Dn (w : World) (bm : Nat) (sv : Value) (S : List Wt) : Prop where
  blk : Blk w bm 103 [sv]
  own : Own w 40 5 sv S.length (fl Wt.cells S)
  each : ∀ x ∈ S, x.Rdy w
  ap : ∀ x ∈ S, ∀ b, x.In b → b ≠ bm ∧ ¬isIn sv b
  rise : Rise S
def Dm (w : World) (bm : Nat) (G : Nat → Prop) (S : List Wt) : Prop := ∃ sv, Dn w bm sv S ∧ G bm ∧ (∀ b, isIn sv b → G b) ∧ ∀ x ∈ S, ∀ b, x.In b → G b
theorem Dn.get {F : Nat → Prop} {w w' : World} {bm : Nat} {sv : Value} {S : List Wt} (h : Dn w bm sv S) (u : Upd F w w') (h1 : ¬F bm) (h2 : ∀ b, isIn sv b → ¬F b) (h3 : ∀ x ∈ S, ∀ b, x.In b → ¬F b) : Dn w' bm sv S :=
  ⟨h.blk.get u h1, h.own.get u h2, fun x hx => (h.each x hx).get u (h3 x hx), h.ap, h.rise⟩
theorem Dm.get {F G : Nat → Prop} {w w' : World} {bm : Nat} {S : List Wt} (h : Dm w bm G S) (u : Upd F w w') (hn : ∀ b, b < w.heap.size → G b → ¬F b) : Dm w' bm G S := by
  obtain ⟨sv, hD, g1, g2, g3⟩ := h
  exact ⟨sv, hD.get u (hn bm hD.blk.lt g1) (fun b hb => hn b (hD.own.lt hb) (g2 b hb)) fun x hx b hb => hn b ((hD.each x hx).lt hb) (g3 x hx b hb), g1, g2, g3⟩
theorem Dm.at {G : Nat → Prop} {w w' : World} {bm : Nat} {S : List Wt} (h : Dm w bm G S) (u : Ext w w') : Dm w' bm G S := h.get u fun _ _ _ h => h
theorem Dm.shrink {G : Nat → Prop} {w : World} {bm : Nat} {S : List Wt} (h : Dm w bm G S) : Dm w bm (fun b => G b ∧ b < w.heap.size) S := by
  obtain ⟨sv, hD, g1, g2, g3⟩ := h
  exact ⟨sv, hD, ⟨g1, hD.blk.lt⟩, fun b hb => ⟨g2 b hb, hD.own.lt hb⟩, fun x hx b hb => ⟨g3 x hx b hb, (hD.each x hx).lt hb⟩⟩
theorem Dn.ne {w : World} {bm : Nat} {sv : Value} {S : List Wt} (h : Dn w bm sv S) : ¬isIn sv bm := fun hb => by
  obtain ⟨cs, hcs⟩ := own_in h.own hb
  exact blk_ne h.blk hcs (by decide) rfl

/-- the match of the i-th that waits -/
theorem load_m {w : World} {b o n c i off : Nat} {xs : List Wt} {y : Wt} (h : Rd w 5 (.slice (some ⟨b, o, none⟩) n c) n (fl Wt.cells xs)) (hi : xs[i]? = some y) (hn : n = xs.length) (ho : off = o + i * 5) : (loadVar 29 ⟨b, off, none⟩).run Try.prog w = .ok (.agg y.m.cells.toArray) w :=
  load_agg_cells AggT.h (by rfl) fun j v hv => by
    rw [Addr.add_lit]
    exact rd_cell (j := j) wt_len h hi (by
      have hj : j < 4 := (List.getElem?_eq_some_iff.1 hv).1
      rw [← hv]
      match j, hj with
      | 0, _ => rfl
      | 1, _ => rfl
      | 2, _ => rfl
      | 3, _ => rfl) hn (by omega)

set_option maxRecDepth 100000 in
theorem model_new (w : World) : Gets Try.prog 30 [] w fun v w' => ∃ bm, v = .pointer (some ⟨bm, 0, none⟩) ∧ Dm w' bm (fun b => w.heap.size ≤ b) [] ∧ Ext w w' := by
  refine ⟨GoFn.h, calls_of_swp 3 Try.func30 Try.ntmps30 rfl (Nat.le_of_ble_eq_true rfl) ?_⟩
  (repeat (first | refine swp_seq ?_ | refine swp_block ?_)); refine swp_region (by kernel_rfl) ?_
  repeat (first | refine x_move (by rfl) ?_ | refine x_as (by rfl) (by rfl) ?_ | refine x_skip (by rfl) ?_ | refine x_fld (by rfl) (by rfl) FldO.h ?_ | refine x_nilck (by rfl) (by rfl) ?_ | refine x_len (by rfl) (by rfl) ElOf.some ?_ | refine x_ext (by rfl) (by rfl) (by rfl) ?_ | refine x_pickT (by rfl) (by rfl) (by rfl) ?_ | refine x_pickF (by rfl) (by rfl) (by rfl) ?_ | refine x_add (by rfl) (by rfl) (by rfl) (by omega) ?_ | refine x_sub (by rfl) (by rfl) (by rfl) (by omega) ?_ | refine x_not (by rfl) (by rfl) ?_)
  refine x_nilw ?_
  (repeat (first | refine swp_seq ?_ | refine swp_block ?_)); refine swp_region (by kernel_rfl) ?_
  refine x_build (v := .agg [.slice none 0 0].toArray) (by rfl) (by rfl) (fun _ => by kernel_rfl) ?_
  refine w_boxA (by rfl) (by rfl) (by rfl) ?_; intro b1 w1 e1 u1 h1
  repeat (first | refine x_move (by rfl) ?_ | refine x_as (by rfl) (by rfl) ?_ | refine x_skip (by rfl) ?_ | refine x_fld (by rfl) (by rfl) FldO.h ?_ | refine x_nilck (by rfl) (by rfl) ?_ | refine x_len (by rfl) (by rfl) ElOf.some ?_ | refine x_ext (by rfl) (by rfl) (by rfl) ?_ | refine x_pickT (by rfl) (by rfl) (by rfl) ?_ | refine x_pickF (by rfl) (by rfl) (by rfl) ?_ | refine x_add (by rfl) (by rfl) (by rfl) (by omega) ?_ | refine x_sub (by rfl) (by rfl) (by rfl) (by omega) ?_ | refine x_not (by rfl) (by rfl) ?_)
  refine x_nilw ?_
  refine swp_ret ?_; (repeat (first | with_reducible refine r_then ?_ | with_reducible refine r_block ?_ | with_reducible refine r_jump ?_))
  exact post1 rfl rfl ⟨_, rfl, b1, rfl, ⟨_, ⟨h1, Own.nil _ _ _, by simp, by simp, List.Pairwise.nil⟩, by omega, fun b h => h.elim, by simp⟩, u1⟩

set_option maxRecDepth 100000 in
theorem model_len {w : World} {bm : Nat} {G : Nat → Prop} {S : List Wt} (h : Dm w bm G S) : Gets Try.prog 35 [.pointer (some ⟨bm, 0, none⟩)] w fun v w' => v = .int .i64 (S.length : Nat) ∧ w = w' := by
  obtain ⟨sv, hD, -⟩ := h
  obtain ⟨a, c, rfl⟩ := hD.own.slice
  have hb := hD.blk
  refine ⟨GoFn.h, calls_of_swp 8 Try.func35 Try.ntmps35 rfl (Nat.le_of_ble_eq_true rfl) ?_⟩
  (repeat (first | refine swp_seq ?_ | refine swp_block ?_)); refine swp_region (by kernel_rfl) ?_
  repeat (first | refine x_move (by rfl) ?_ | refine x_as (by rfl) (by rfl) ?_ | refine x_skip (by rfl) ?_ | refine x_fld (by rfl) (by rfl) FldO.h ?_ | refine x_nilck (by rfl) (by rfl) ?_ | refine x_len (by rfl) (by rfl) ElOf.some ?_ | refine x_ext (by rfl) (by rfl) (by rfl) ?_ | refine x_pickT (by rfl) (by rfl) (by rfl) ?_ | refine x_pickF (by rfl) (by rfl) (by rfl) ?_ | refine x_add (by rfl) (by rfl) (by rfl) (by omega) ?_ | refine x_sub (by rfl) (by rfl) (by rfl) (by omega) ?_ | refine x_not (by rfl) (by rfl) ?_)
  refine x_nilw ?_
  (repeat (first | refine swp_seq ?_ | refine swp_block ?_)); refine swp_region (by kernel_rfl) ?_
  repeat (first | refine x_move (by rfl) ?_ | refine x_as (by rfl) (by rfl) ?_ | refine x_skip (by rfl) ?_ | refine x_fld (by rfl) (by rfl) FldO.h ?_ | refine x_nilck (by rfl) (by rfl) ?_ | refine x_len (by rfl) (by rfl) ElOf.some ?_ | refine x_ext (by rfl) (by rfl) (by rfl) ?_ | refine x_pickT (by rfl) (by rfl) (by rfl) ?_ | refine x_pickF (by rfl) (by rfl) (by rfl) ?_ | refine x_add (by rfl) (by rfl) (by rfl) (by omega) ?_ | refine x_sub (by rfl) (by rfl) (by rfl) (by omega) ?_ | refine x_not (by rfl) (by rfl) ?_)
  refine w_load (by rfl) (by rfl) (load_one OneT.h hb (by rfl)) ?_
  repeat (first | refine x_move (by rfl) ?_ | refine x_as (by rfl) (by rfl) ?_ | refine x_skip (by rfl) ?_ | refine x_fld (by rfl) (by rfl) FldO.h ?_ | refine x_nilck (by rfl) (by rfl) ?_ | refine x_len (by rfl) (by rfl) ElOf.some ?_ | refine x_ext (by rfl) (by rfl) (by rfl) ?_ | refine x_pickT (by rfl) (by rfl) (by rfl) ?_ | refine x_pickF (by rfl) (by rfl) (by rfl) ?_ | refine x_add (by rfl) (by rfl) (by rfl) (by omega) ?_ | refine x_sub (by rfl) (by rfl) (by rfl) (by omega) ?_ | refine x_not (by rfl) (by rfl) ?_)
  refine x_nilw ?_
  refine swp_ret ?_; (repeat (first | with_reducible refine r_then ?_ | with_reducible refine r_block ?_ | with_reducible refine r_jump ?_))
  exact post1 rfl rfl ⟨_, rfl, rfl, rfl⟩

set_option maxHeartbeats 1000000 in
set_option maxRecDepth 100000 in
theorem model_list {w : World} {bm : Nat} {G : Nat → Prop} {S : List Wt} (h : Dm w bm G S) (hr : Room S.length 104) :
    Gets Try.prog 33 [.pointer (some ⟨bm, 0, none⟩)] w fun v w' => ∃ out, Lst tWt 40 w w' v out ∧ out.map Wt.says = S.map Wt.says ∧ Ext w w' := by
  obtain ⟨sv, hD, -⟩ := h
  obtain ⟨a, c, rfl⟩ := hD.own.slice
  have hb := hD.blk
  have rd := hD.own.rd
  have hcap := hr.1
  refine ⟨GoFn.h, calls_of_swp 28 Try.func33 Try.ntmps33 rfl (Nat.le_of_ble_eq_true rfl) ?_⟩
  (repeat (first | refine swp_seq ?_ | refine swp_block ?_)); refine swp_region (by kernel_rfl) ?_
  repeat (first | refine x_move (by rfl) ?_ | refine x_as (by rfl) (by rfl) ?_ | refine x_skip (by rfl) ?_ | refine x_fld (by rfl) (by rfl) FldO.h ?_ | refine x_nilck (by rfl) (by rfl) ?_ | refine x_len (by rfl) (by rfl) ElOf.some ?_ | refine x_ext (by rfl) (by rfl) (by rfl) ?_ | refine x_pickT (by rfl) (by rfl) (by rfl) ?_ | refine x_pickF (by rfl) (by rfl) (by rfl) ?_ | refine x_add (by rfl) (by rfl) (by rfl) (by omega) ?_ | refine x_sub (by rfl) (by rfl) (by rfl) (by omega) ?_ | refine x_not (by rfl) (by rfl) ?_)
  refine x_nilw ?_
  (repeat (first | refine swp_seq ?_ | refine swp_block ?_)); refine swp_region (by kernel_rfl) ?_
  repeat (first | refine x_move (by rfl) ?_ | refine x_as (by rfl) (by rfl) ?_ | refine x_skip (by rfl) ?_ | refine x_fld (by rfl) (by rfl) FldO.h ?_ | refine x_nilck (by rfl) (by rfl) ?_ | refine x_len (by rfl) (by rfl) ElOf.some ?_ | refine x_ext (by rfl) (by rfl) (by rfl) ?_ | refine x_pickT (by rfl) (by rfl) (by rfl) ?_ | refine x_pickF (by rfl) (by rfl) (by rfl) ?_ | refine x_add (by rfl) (by rfl) (by rfl) (by omega) ?_ | refine x_sub (by rfl) (by rfl) (by rfl) (by omega) ?_ | refine x_not (by rfl) (by rfl) ?_)
  refine x_nilw ?_
  (repeat (first | refine swp_seq ?_ | refine swp_block ?_)); refine swp_region (by kernel_rfl) ?_
  repeat (first | refine x_move (by rfl) ?_ | refine x_as (by rfl) (by rfl) ?_ | refine x_skip (by rfl) ?_ | refine x_fld (by rfl) (by rfl) FldO.h ?_ | refine x_nilck (by rfl) (by rfl) ?_ | refine x_len (by rfl) (by rfl) ElOf.some ?_ | refine x_ext (by rfl) (by rfl) (by rfl) ?_ | refine x_pickT (by rfl) (by rfl) (by rfl) ?_ | refine x_pickF (by rfl) (by rfl) (by rfl) ?_ | refine x_add (by rfl) (by rfl) (by rfl) (by omega) ?_ | refine x_sub (by rfl) (by rfl) (by rfl) (by omega) ?_ | refine x_not (by rfl) (by rfl) ?_)
  refine x_nilw ?_
  refine swp_fit [(0, .pointer (some ⟨bm, 0, none⟩)), (3, .slice none 0 0), (4, .int .i64 ((0 : Nat) : Int))] ⟨rfl, rfl, rfl, trivial⟩ fun ρ => ?_
  (repeat (first | refine swp_seq ?_ | refine swp_block ?_))
  refine swp_loop (fun (i : Nat) σ w2 => ∃ so out, At σ [(0, .pointer (some ⟨bm, 0, none⟩)), (3, so), (4, .int .i64 (i : Nat))] ∧ i ≤ S.length ∧ Lst tWt 40 w w2 so out ∧ out.map Wt.says = (S.take i).map Wt.says ∧ Ext w w2) (fun i => S.length - i) 0 ⟨.slice none 0 0, [], at_ ⟨rfl, rfl, rfl, trivial⟩, by omega, Lst.nil _ _ _ _, rfl, Upd.refl _ _⟩ ?_
  rintro i σ w2 ⟨so, out, ⟨ρ, rfl⟩, hi, hL, hsay, u2⟩
  have hlo : out.length = i := by have := congrArg List.length hsay; simp at this; omega
  have hb2 := hb.at u2
  have rd2 := rd.at u2
  (repeat (first | refine swp_seq ?_ | refine swp_block ?_)); refine swp_region (by kernel_rfl) ?_
  repeat (first | refine x_move (by rfl) ?_ | refine x_as (by rfl) (by rfl) ?_ | refine x_skip (by rfl) ?_ | refine x_fld (by rfl) (by rfl) FldO.h ?_ | refine x_nilck (by rfl) (by rfl) ?_ | refine x_len (by rfl) (by rfl) ElOf.some ?_ | refine x_ext (by rfl) (by rfl) (by rfl) ?_ | refine x_pickT (by rfl) (by rfl) (by rfl) ?_ | refine x_pickF (by rfl) (by rfl) (by rfl) ?_ | refine x_add (by rfl) (by rfl) (by rfl) (by omega) ?_ | refine x_sub (by rfl) (by rfl) (by rfl) (by omega) ?_ | refine x_not (by rfl) (by rfl) ?_)
  refine w_load (by rfl) (by rfl) (load_one OneT.h hb2 (by rfl)) ?_
  repeat (first | refine x_move (by rfl) ?_ | refine x_as (by rfl) (by rfl) ?_ | refine x_skip (by rfl) ?_ | refine x_fld (by rfl) (by rfl) FldO.h ?_ | refine w_load (by rfl) (by rfl) (load_one OneT.h (by assumption) (by rfl)) ?_ | refine x_nilck (by rfl) (by rfl) ?_ | refine x_len (by rfl) (by rfl) ElOf.some ?_ | refine x_iface (by rfl) (by rfl) NIf.h ?_ | refine x_ext (by rfl) (by rfl) (by rfl) ?_ | refine x_pickT (by rfl) (by rfl) (by rfl) ?_ | refine x_pickF (by rfl) (by rfl) (by rfl) ?_ | refine x_add (by rfl) (by rfl) (by rfl) (by omega) ?_ | refine x_sub (by rfl) (by rfl) (by rfl) (by omega) ?_ | refine x_lss (by rfl) (by rfl) (by rfl) ?_ | refine x_geq (by rfl) (by rfl) (by rfl) ?_ | refine x_leq (by rfl) (by rfl) (by rfl) ?_ | refine x_gtr (by rfl) (by rfl) (by rfl) ?_ | refine x_eql (by rfl) (by rfl) (by rfl) ?_ | refine x_neq (by rfl) (by rfl) (by rfl) ?_ | refine x_not (by rfl) (by rfl) ?_)
  refine x_nilw ?_
  (repeat (first | refine swp_seq ?_ | refine swp_block ?_))
  refine swp_if (by rfl) (fun h0 => swp_skip ?_) (fun h0 => ?_)
  · have hi' : i < S.length := by omega
    obtain ⟨x, hx⟩ := nthE hi'
    have hxR := (hD.each x (List.mem_of_getElem? hx)).at u2
    obtain ⟨b1, o1, d1, he1, -, -⟩ := rd.pos (by omega)
    simp only [Value.slice.injEq] at he1
    obtain ⟨rfl, _, rfl⟩ := he1
    (repeat (first | with_reducible refine n_then ?_ | with_reducible refine n_block ?_ | with_reducible refine n_jump ?_))
    refine swp_fit [(0, .pointer (some ⟨bm, 0, none⟩)), (3, so), (4, .int .i64 (i : Nat))] ⟨rfl, rfl, rfl, trivial⟩ fun ρ => ?_
    (repeat (first | refine swp_seq ?_ | refine swp_block ?_)); refine swp_region (by kernel_rfl) ?_
    repeat (first | refine x_move (by rfl) ?_ | refine x_as (by rfl) (by rfl) ?_ | refine x_skip (by rfl) ?_ | refine x_fld (by rfl) (by rfl) FldO.h ?_ | refine x_nilck (by rfl) (by rfl) ?_ | refine x_len (by rfl) (by rfl) ElOf.some ?_ | refine x_ext (by rfl) (by rfl) (by rfl) ?_ | refine x_pickT (by rfl) (by rfl) (by rfl) ?_ | refine x_pickF (by rfl) (by rfl) (by rfl) ?_ | refine x_add (by rfl) (by rfl) (by rfl) (by omega) ?_ | refine x_sub (by rfl) (by rfl) (by rfl) (by omega) ?_ | refine x_not (by rfl) (by rfl) ?_)
    refine w_load (by rfl) (by rfl) (load_one OneT.h hb2 (by rfl)) ?_
    repeat (first | refine x_move (by rfl) ?_ | refine x_as (by rfl) (by rfl) ?_ | refine x_skip (by rfl) ?_ | refine x_fld (by rfl) (by rfl) FldO.h ?_ | refine x_nilck (by rfl) (by rfl) ?_ | refine x_len (by rfl) (by rfl) ElOf.some ?_ | refine x_ext (by rfl) (by rfl) (by rfl) ?_ | refine x_pickT (by rfl) (by rfl) (by rfl) ?_ | refine x_pickF (by rfl) (by rfl) (by rfl) ?_ | refine x_add (by rfl) (by rfl) (by rfl) (by omega) ?_ | refine x_sub (by rfl) (by rfl) (by rfl) (by omega) ?_ | refine x_not (by rfl) (by rfl) ?_)
    refine x_idx i (by rfl) (by rfl) (by rfl) ElSz.h rfl hi' ?_
    refine w_load (by rfl) (by rfl) (rd_load wt_len AggT.h rd2 hx rfl rfl) ?_
    refine w_call (by rfl) (by rfl) (by rfl) (twin_waiting x w2 hxR) ?_
    rintro _ w3 ⟨y, rfl, hc⟩
    refine w_alloc (by rfl) (by rfl) ZeroT.h ?_; intro b5 w4 e4 u4 h4
    refine w_store (xs := y.cells) (by rfl) (by rfl) (by rfl) (by rfl) SzT.h (by rfl) (by rfl) h4 (by simp) ?_
    intro w5 u5 h5 _
    refine x_nilw ?_
    replace h5 : Blk w5 b5 40 y.cells := h5
    have u35 : Ext w3 w5 := u4.trans' u5 fun b hb e => by have e' : b = b5 := e; omega
    refine swp_fit [(0, .pointer (some ⟨bm, 0, none⟩)), (3, so), (4, .int .i64 (i : Nat)), (5, .pointer (some ⟨b5, 0, none⟩))] ⟨rfl, rfl, rfl, rfl, trivial⟩ fun ρ => ?_
    (repeat (first | refine swp_seq ?_ | refine swp_block ?_)); refine swp_region (by kernel_rfl) ?_
    repeat (first | refine x_move (by rfl) ?_ | refine x_as (by rfl) (by rfl) ?_ | refine x_skip (by rfl) ?_ | refine x_fld (by rfl) (by rfl) FldO.h ?_ | refine x_nilck (by rfl) (by rfl) ?_ | refine x_len (by rfl) (by rfl) ElOf.some ?_ | refine x_ext (by rfl) (by rfl) (by rfl) ?_ | refine x_pickT (by rfl) (by rfl) (by rfl) ?_ | refine x_pickF (by rfl) (by rfl) (by rfl) ?_ | refine x_add (by rfl) (by rfl) (by rfl) (by omega) ?_ | refine x_sub (by rfl) (by rfl) (by rfl) (by omega) ?_ | refine x_not (by rfl) (by rfl) ?_)
    refine w_load (by rfl) (by rfl) (load_agg (xs := y.cells) AggT.h h5 (by rfl) (by rfl)) ?_
    refine w_bslice (e := 40) (cs := y.cells) (by rfl) (by rfl) (by rfl) (by kernel_rfl) ?_
    intro b6 w6 e6 u6 h6
    have hc6 := (hc.at u35).at u6
    refine w_append (more := []) (news := y.cells) (by rfl) (by rfl) (by rfl) (by rfl) SlC.h (hL.own.at hc6.ext) (by rw [List.append_nil]; exact h6) (wt_len _) (wt_one _) (by omega) (hr.le (by omega)) ?_
    intro so' w7 hown7 u7 hin7
    repeat (first | refine x_move (by rfl) ?_ | refine x_as (by rfl) (by rfl) ?_ | refine x_skip (by rfl) ?_ | refine x_fld (by rfl) (by rfl) FldO.h ?_ | refine x_nilck (by rfl) (by rfl) ?_ | refine x_len (by rfl) (by rfl) ElOf.some ?_ | refine x_ext (by rfl) (by rfl) (by rfl) ?_ | refine x_pickT (by rfl) (by rfl) (by rfl) ?_ | refine x_pickF (by rfl) (by rfl) (by rfl) ?_ | refine x_add (by rfl) (by rfl) (by rfl) (by omega) ?_ | refine x_sub (by rfl) (by rfl) (by rfl) (by omega) ?_ | refine x_not (by rfl) (by rfl) ?_)
    refine x_nilw ?_
    have hL7 := hL.push (T := tWt) u2.size hc6.rdy hc6.new hc6.ext hown7 u7 hin7
    (repeat (first | with_reducible refine n_then ?_ | with_reducible refine n_block ?_ | with_reducible refine n_jump ?_))
    (repeat (first | refine swp_seq ?_ | refine swp_block ?_)); refine swp_region (by kernel_rfl) ?_
    repeat (first | refine x_move (by rfl) ?_ | refine x_as (by rfl) (by rfl) ?_ | refine x_skip (by rfl) ?_ | refine x_fld (by rfl) (by rfl) FldO.h ?_ | refine w_load (by rfl) (by rfl) (load_one OneT.h (by assumption) (by rfl)) ?_ | refine x_nilck (by rfl) (by rfl) ?_ | refine x_len (by rfl) (by rfl) ElOf.some ?_ | refine x_iface (by rfl) (by rfl) NIf.h ?_ | refine x_ext (by rfl) (by rfl) (by rfl) ?_ | refine x_pickT (by rfl) (by rfl) (by rfl) ?_ | refine x_pickF (by rfl) (by rfl) (by rfl) ?_ | refine x_add (by rfl) (by rfl) (by rfl) (by omega) ?_ | refine x_sub (by rfl) (by rfl) (by rfl) (by omega) ?_ | refine x_lss (by rfl) (by rfl) (by rfl) ?_ | refine x_geq (by rfl) (by rfl) (by rfl) ?_ | refine x_leq (by rfl) (by rfl) (by rfl) ?_ | refine x_gtr (by rfl) (by rfl) (by rfl) ?_ | refine x_eql (by rfl) (by rfl) (by rfl) ?_ | refine x_neq (by rfl) (by rfl) (by rfl) ?_ | refine x_not (by rfl) (by rfl) ?_)
    refine x_nilw ?_
    exact ⟨i + 1, ⟨so', out ++ [y], at_ ⟨rfl, rfl, rfl, trivial⟩, hi', hL7, by rw [List.map_append, hsay, take_succ' hx, List.map_append]; simp [hc.says], (u2.trans hc6.ext).trans' u7 fun b hb h => by have := hL.new b h; omega⟩, by omega⟩
  · have hin : i = S.length := by omega
    rw [hin, List.take_length] at hsay
    refine swp_exit ?_; (repeat (first | with_reducible refine e_then ?_ | with_reducible refine e_jump ?_)); refine e_block ?_; (repeat (first | with_reducible refine n_then ?_ | with_reducible refine n_block ?_ | with_reducible refine n_jump ?_))
    (repeat (first | refine swp_seq ?_ | refine swp_block ?_)); refine swp_region (by kernel_rfl) ?_
    repeat (first | refine x_move (by rfl) ?_ | refine x_as (by rfl) (by rfl) ?_ | refine x_skip (by rfl) ?_ | refine x_fld (by rfl) (by rfl) FldO.h ?_ | refine x_nilck (by rfl) (by rfl) ?_ | refine x_len (by rfl) (by rfl) ElOf.some ?_ | refine x_ext (by rfl) (by rfl) (by rfl) ?_ | refine x_pickT (by rfl) (by rfl) (by rfl) ?_ | refine x_pickF (by rfl) (by rfl) (by rfl) ?_ | refine x_add (by rfl) (by rfl) (by rfl) (by omega) ?_ | refine x_sub (by rfl) (by rfl) (by rfl) (by omega) ?_ | refine x_not (by rfl) (by rfl) ?_)
    refine x_nilw ?_
    refine swp_ret ?_; (repeat (first | with_reducible refine r_then ?_ | with_reducible refine r_block ?_ | with_reducible refine r_jump ?_))
    exact post1 rfl rfl ⟨_, rfl, out, hL, hsay, u2⟩

theorem filter_take {mark : Int} : ∀ {S : List Wt}, Rise S → S.filter (by_ mark) = S.takeWhile (by_ mark) ∧ S.filter (fun x => !by_ mark x) = S.dropWhile (by_ mark)
  | [], _ => by simp
  | x :: S, hr => by
    obtain ⟨h1, h2⟩ := filter_take (mark := mark) (List.pairwise_cons.1 hr).2
    cases c : by_ mark x with
    | true => simp [c, h1, h2]
    | false =>
      have hall : ∀ y ∈ S, by_ mark y = false := fun y hy => drop_by hr y (by rw [List.dropWhile_cons, c]; simp [hy])
      constructor
      · simp only [List.filter_cons, c, List.takeWhile_cons, Bool.false_eq_true, if_false]
        exact List.filter_eq_nil_iff.2 fun y hy => by rw [hall y hy]; simp
      · simp only [List.filter_cons, c, List.dropWhile_cons, Bool.not_false, if_true, Bool.false_eq_true, if_false]
        rw [List.filter_eq_self.2 fun y hy => by rw [hall y hy]; rfl]
theorem filter_map_says {p : Wt → Bool} {q : Sw → Bool} (h : ∀ x, p x = q x.says) (S : List Wt) : (S.filter p).map Wt.says = (S.map Wt.says).filter q := by
  rw [List.filter_map]
  congr 1
  exact List.filter_congr fun x _ => h x

set_option maxHeartbeats 2000000 in
set_option maxRecDepth 100000 in
theorem model_take {w : World} {bm : Nat} {G : Nat → Prop} {S : List Wt} (mark : Int) (h : Dm w bm G S) (hr : Room S.length 104) :
    Gets Try.prog 32 [.pointer (some ⟨bm, 0, none⟩), .int .i64 mark] w fun v w' => ∃ out S' G', Lst tWt 40 w w' v out ∧ out.map Wt.says = (S.takeWhile (by_ mark)).map Wt.says ∧ Dm w' bm G' S' ∧ S'.map Wt.says = (S.dropWhile (by_ mark)).map Wt.says ∧ Upd G w w' ∧ (∀ b, G' b → G b ∨ w.heap.size ≤ b) ∧ (∀ b, isIn v b → ¬G' b) ∧ ∀ y ∈ out, ∀ b, y.In b → ¬G' b := by
  obtain ⟨sv, hD, g1, g2, g3⟩ := h
  obtain ⟨a, c, rfl⟩ := hD.own.slice
  have hb := hD.blk
  have rd := hD.own.rd
  have hcap := hr.1
  refine ⟨GoFn.h, calls_of_swp 44 Try.func32 Try.ntmps32 rfl (Nat.le_of_ble_eq_true rfl) ?_⟩
  (repeat (first | refine swp_seq ?_ | refine swp_block ?_)); refine swp_region (by kernel_rfl) ?_
  repeat (first | refine x_move (by rfl) ?_ | refine x_as (by rfl) (by rfl) ?_ | refine x_skip (by rfl) ?_ | refine x_fld (by rfl) (by rfl) FldO.h ?_ | refine x_nilck (by rfl) (by rfl) ?_ | refine x_len (by rfl) (by rfl) ElOf.some ?_ | refine x_ext (by rfl) (by rfl) (by rfl) ?_ | refine x_pickT (by rfl) (by rfl) (by rfl) ?_ | refine x_pickF (by rfl) (by rfl) (by rfl) ?_ | refine x_add (by rfl) (by rfl) (by rfl) (by omega) ?_ | refine x_sub (by rfl) (by rfl) (by rfl) (by omega) ?_ | refine x_not (by rfl) (by rfl) ?_)
  refine x_nilw ?_
  (repeat (first | refine swp_seq ?_ | refine swp_block ?_)); refine swp_region (by kernel_rfl) ?_
  repeat (first | refine x_move (by rfl) ?_ | refine x_as (by rfl) (by rfl) ?_ | refine x_skip (by rfl) ?_ | refine x_fld (by rfl) (by rfl) FldO.h ?_ | refine x_nilck (by rfl) (by rfl) ?_ | refine x_len (by rfl) (by rfl) ElOf.some ?_ | refine x_ext (by rfl) (by rfl) (by rfl) ?_ | refine x_pickT (by rfl) (by rfl) (by rfl) ?_ | refine x_pickF (by rfl) (by rfl) (by rfl) ?_ | refine x_add (by rfl) (by rfl) (by rfl) (by omega) ?_ | refine x_sub (by rfl) (by rfl) (by rfl) (by omega) ?_ | refine x_not (by rfl) (by rfl) ?_)
  refine x_nilw ?_
  (repeat (first | refine swp_seq ?_ | refine swp_block ?_)); refine swp_region (by kernel_rfl) ?_
  repeat (first | refine x_move (by rfl) ?_ | refine x_as (by rfl) (by rfl) ?_ | refine x_skip (by rfl) ?_ | refine x_fld (by rfl) (by rfl) FldO.h ?_ | refine x_nilck (by rfl) (by rfl) ?_ | refine x_len (by rfl) (by rfl) ElOf.some ?_ | refine x_ext (by rfl) (by rfl) (by rfl) ?_ | refine x_pickT (by rfl) (by rfl) (by rfl) ?_ | refine x_pickF (by rfl) (by rfl) (by rfl) ?_ | refine x_add (by rfl) (by rfl) (by rfl) (by omega) ?_ | refine x_sub (by rfl) (by rfl) (by rfl) (by omega) ?_ | refine x_not (by rfl) (by rfl) ?_)
  refine x_nilw ?_
  (repeat (first | refine swp_seq ?_ | refine swp_block ?_)); refine swp_region (by kernel_rfl) ?_
  repeat (first | refine x_move (by rfl) ?_ | refine x_as (by rfl) (by rfl) ?_ | refine x_skip (by rfl) ?_ | refine x_fld (by rfl) (by rfl) FldO.h ?_ | refine x_nilck (by rfl) (by rfl) ?_ | refine x_len (by rfl) (by rfl) ElOf.some ?_ | refine x_ext (by rfl) (by rfl) (by rfl) ?_ | refine x_pickT (by rfl) (by rfl) (by rfl) ?_ | refine x_pickF (by rfl) (by rfl) (by rfl) ?_ | refine x_add (by rfl) (by rfl) (by rfl) (by omega) ?_ | refine x_sub (by rfl) (by rfl) (by rfl) (by omega) ?_ | refine x_not (by rfl) (by rfl) ?_)
  refine x_nilw ?_
  refine swp_fit [(0, .pointer (some ⟨bm, 0, none⟩)), (1, .int .i64 mark), (5, .slice none 0 0), (6, .slice none 0 0), (7, .int .i64 ((0 : Nat) : Int))] ⟨rfl, rfl, rfl, rfl, rfl, trivial⟩ fun ρ => ?_
  (repeat (first | refine swp_seq ?_ | refine swp_block ?_))
  refine swp_loop (fun (i : Nat) σ w2 => ∃ so sl out left, At σ [(0, .pointer (some ⟨bm, 0, none⟩)), (1, .int .i64 mark), (5, so), (6, sl), (7, .int .i64 (i : Nat))] ∧ i ≤ S.length ∧ Lst tWt 40 w w2 so out ∧ Lst tWt 40 w w2 sl left ∧ out.map Wt.says = ((S.take i).filter (by_ mark)).map Wt.says ∧ left.map Wt.says = ((S.take i).filter fun x => !by_ mark x).map Wt.says ∧ out.length + left.length = i ∧ (∀ b, isIn so b → ¬isIn sl b) ∧ (∀ y ∈ out, ∀ b, y.In b → ¬isIn sl b) ∧ (∀ y ∈ left, ∀ b, y.In b → ¬isIn so b) ∧ (∀ y ∈ out, ∀ z ∈ left, ∀ b, y.In b → ¬z.In b) ∧ Ext w w2) (fun i => S.length - i) 0 ⟨.slice none 0 0, .slice none 0 0, [], [], at_ ⟨rfl, rfl, rfl, rfl, rfl, trivial⟩, by omega, Lst.nil _ _ _ _, Lst.nil _ _ _ _, rfl, rfl, rfl, fun b h => h.elim, by simp, by simp, by simp, Upd.refl _ _⟩ ?_
  rintro i σ w2 ⟨so, sl, out, left, ⟨ρ, rfl⟩, hi, hO, hL, hos, hls, hlen, d1, d2, d3, d4, u2⟩
  have hb2 := hb.at u2
  have rd2 := rd.at u2
  (repeat (first | refine swp_seq ?_ | refine swp_block ?_)); refine swp_region (by kernel_rfl) ?_
  repeat (first | refine x_move (by rfl) ?_ | refine x_as (by rfl) (by rfl) ?_ | refine x_skip (by rfl) ?_ | refine x_fld (by rfl) (by rfl) FldO.h ?_ | refine x_nilck (by rfl) (by rfl) ?_ | refine x_len (by rfl) (by rfl) ElOf.some ?_ | refine x_ext (by rfl) (by rfl) (by rfl) ?_ | refine x_pickT (by rfl) (by rfl) (by rfl) ?_ | refine x_pickF (by rfl) (by rfl) (by rfl) ?_ | refine x_add (by rfl) (by rfl) (by rfl) (by omega) ?_ | refine x_sub (by rfl) (by rfl) (by rfl) (by omega) ?_ | refine x_not (by rfl) (by rfl) ?_)
  refine w_load (by rfl) (by rfl) (load_one OneT.h hb2 (by rfl)) ?_
  repeat (first | refine x_move (by rfl) ?_ | refine x_as (by rfl) (by rfl) ?_ | refine x_skip (by rfl) ?_ | refine x_fld (by rfl) (by rfl) FldO.h ?_ | refine w_load (by rfl) (by rfl) (load_one OneT.h (by assumption) (by rfl)) ?_ | refine x_nilck (by rfl) (by rfl) ?_ | refine x_len (by rfl) (by rfl) ElOf.some ?_ | refine x_iface (by rfl) (by rfl) NIf.h ?_ | refine x_ext (by rfl) (by rfl) (by rfl) ?_ | refine x_pickT (by rfl) (by rfl) (by rfl) ?_ | refine x_pickF (by rfl) (by rfl) (by rfl) ?_ | refine x_add (by rfl) (by rfl) (by rfl) (by omega) ?_ | refine x_sub (by rfl) (by rfl) (by rfl) (by omega) ?_ | refine x_lss (by rfl) (by rfl) (by rfl) ?_ | refine x_geq (by rfl) (by rfl) (by rfl) ?_ | refine x_leq (by rfl) (by rfl) (by rfl) ?_ | refine x_gtr (by rfl) (by rfl) (by rfl) ?_ | refine x_eql (by rfl) (by rfl) (by rfl) ?_ | refine x_neq (by rfl) (by rfl) (by rfl) ?_ | refine x_not (by rfl) (by rfl) ?_)
  refine x_nilw ?_
  (repeat (first | refine swp_seq ?_ | refine swp_block ?_))
  refine swp_if (by rfl) (fun h0 => swp_skip ?_) (fun h0 => ?_)
  · have hi' : i < S.length := by omega
    obtain ⟨x, hx⟩ := nthE hi'
    have hxR := (hD.each x (List.mem_of_getElem? hx)).at u2
    obtain ⟨b1, o1, d1', he1, -, -⟩ := rd.pos (by omega)
    simp only [Value.slice.injEq] at he1
    obtain ⟨rfl, _, rfl⟩ := he1
    (repeat (first | with_reducible refine n_then ?_ | with_reducible refine n_block ?_ | with_reducible refine n_jump ?_))
    refine swp_fit [(0, .pointer (some ⟨bm, 0, none⟩)), (1, .int .i64 mark), (5, so), (6, sl), (7, .int .i64 (i : Nat))] ⟨rfl, rfl, rfl, rfl, rfl, trivial⟩ fun ρ => ?_
    (repeat (first | refine swp_seq ?_ | refine swp_block ?_)); refine swp_region (by kernel_rfl) ?_
    repeat (first | refine x_move (by rfl) ?_ | refine x_as (by rfl) (by rfl) ?_ | refine x_skip (by rfl) ?_ | refine x_fld (by rfl) (by rfl) FldO.h ?_ | refine x_nilck (by rfl) (by rfl) ?_ | refine x_len (by rfl) (by rfl) ElOf.some ?_ | refine x_ext (by rfl) (by rfl) (by rfl) ?_ | refine x_pickT (by rfl) (by rfl) (by rfl) ?_ | refine x_pickF (by rfl) (by rfl) (by rfl) ?_ | refine x_add (by rfl) (by rfl) (by rfl) (by omega) ?_ | refine x_sub (by rfl) (by rfl) (by rfl) (by omega) ?_ | refine x_not (by rfl) (by rfl) ?_)
    refine w_load (by rfl) (by rfl) (load_one OneT.h hb2 (by rfl)) ?_
    repeat (first | refine x_move (by rfl) ?_ | refine x_as (by rfl) (by rfl) ?_ | refine x_skip (by rfl) ?_ | refine x_fld (by rfl) (by rfl) FldO.h ?_ | refine x_nilck (by rfl) (by rfl) ?_ | refine x_len (by rfl) (by rfl) ElOf.some ?_ | refine x_ext (by rfl) (by rfl) (by rfl) ?_ | refine x_pickT (by rfl) (by rfl) (by rfl) ?_ | refine x_pickF (by rfl) (by rfl) (by rfl) ?_ | refine x_add (by rfl) (by rfl) (by rfl) (by omega) ?_ | refine x_sub (by rfl) (by rfl) (by rfl) (by omega) ?_ | refine x_not (by rfl) (by rfl) ?_)
    refine x_idx i (by rfl) (by rfl) (by rfl) ElSz.h rfl hi' ?_
    refine w_load (by rfl) (by rfl) (rd_load wt_len AggT.h rd2 hx rfl rfl) ?_
    refine w_call (by rfl) (by rfl) (by rfl) (twin_waiting x w2 hxR) ?_
    rintro _ w3 ⟨y, rfl, hc⟩
    refine w_alloc (by rfl) (by rfl) ZeroT.h ?_; intro b5 w4 e4 u4 h4
    refine w_store (xs := y.cells) (by rfl) (by rfl) (by rfl) (by rfl) SzT.h (by rfl) (by rfl) h4 (by simp) ?_
    intro w5 u5 h5 _
    refine x_nilw ?_
    replace h5 : Blk w5 b5 40 y.cells := h5
    have u35 : Ext w3 w5 := u4.trans' u5 fun b hb e => by have e' : b = b5 := e; omega
    have hc5 := hc.at u35
    have hby : by_ mark y = by_ mark x := by_says hc.says
    have s2 := u2.size
    have yn : ∀ b, y.In b → w2.heap.size ≤ b := hc.new
    have lso : ∀ b, isIn so b → b < w2.heap.size := fun b hb => hO.own.lt hb
    have lsl : ∀ b, isIn sl b → b < w2.heap.size := fun b hb => hL.own.lt hb
    have lo : ∀ z ∈ out, ∀ b, z.In b → b < w2.heap.size := fun z hz b hb => tWt.lt (hO.each z hz) hb
    have ll : ∀ z ∈ left, ∀ b, z.In b → b < w2.heap.size := fun z hz b hb => tWt.lt (hL.each z hz) hb
    refine swp_fit [(0, .pointer (some ⟨bm, 0, none⟩)), (1, .int .i64 mark), (5, so), (6, sl), (7, .int .i64 (i : Nat)), (8, .pointer (some ⟨b5, 0, none⟩))] ⟨rfl, rfl, rfl, rfl, rfl, rfl, trivial⟩ fun ρ => ?_
    refine PEv.swp_cutQ (fun σ w8 => ∃ so sl out left, At σ [(0, .pointer (some ⟨bm, 0, none⟩)), (1, .int .i64 mark), (5, so), (6, sl), (7, .int .i64 (i : Nat))] ∧ Lst tWt 40 w w8 so out ∧ Lst tWt 40 w w8 sl left ∧ out.map Wt.says = ((S.take (i + 1)).filter (by_ mark)).map Wt.says ∧ left.map Wt.says = ((S.take (i + 1)).filter fun x => !by_ mark x).map Wt.says ∧ out.length + left.length = i + 1 ∧ (∀ b, isIn so b → ¬isIn sl b) ∧ (∀ y ∈ out, ∀ b, y.In b → ¬isIn sl b) ∧ (∀ y ∈ left, ∀ b, y.In b → ¬isIn so b) ∧ (∀ y ∈ out, ∀ z ∈ left, ∀ b, y.In b → ¬z.In b) ∧ Ext w w8) ?_ ?_
    · by_cases hdec : y.m.dec ≤ mark
      · have hbx : by_ mark x = true := by rw [← hby]; exact decide_eq_true hdec
        (repeat (first | refine swp_seq ?_ | refine swp_block ?_)); refine swp_region (by kernel_rfl) ?_
        repeat (first | refine x_move (by rfl) ?_ | refine x_as (by rfl) (by rfl) ?_ | refine x_skip (by rfl) ?_ | refine x_fld (by rfl) (by rfl) FldO.h ?_ | refine x_nilck (by rfl) (by rfl) ?_ | refine x_len (by rfl) (by rfl) ElOf.some ?_ | refine x_ext (by rfl) (by rfl) (by rfl) ?_ | refine x_pickT (by rfl) (by rfl) (by rfl) ?_ | refine x_pickF (by rfl) (by rfl) (by rfl) ?_ | refine x_add (by rfl) (by rfl) (by rfl) (by omega) ?_ | refine x_sub (by rfl) (by rfl) (by rfl) (by omega) ?_ | refine x_not (by rfl) (by rfl) ?_)
        refine w_load (by rfl) (by rfl) (load_one (v := .int .i64 y.m.dec) OneT.h h5 (by rfl)) ?_
        repeat (first | refine x_move (by rfl) ?_ | refine x_as (by rfl) (by rfl) ?_ | refine x_skip (by rfl) ?_ | refine x_fld (by rfl) (by rfl) FldO.h ?_ | refine x_nilck (by rfl) (by rfl) ?_ | refine x_len (by rfl) (by rfl) ElOf.some ?_ | refine x_ext (by rfl) (by rfl) (by rfl) ?_ | refine x_pickT (by rfl) (by rfl) (by rfl) ?_ | refine x_pickF (by rfl) (by rfl) (by rfl) ?_ | refine x_add (by rfl) (by rfl) (by rfl) (by omega) ?_ | refine x_sub (by rfl) (by rfl) (by rfl) (by omega) ?_ | refine x_not (by rfl) (by rfl) ?_)
        refine x_leqT (by rfl) (by rfl) (by rfl) hdec ?_
        refine x_nilw ?_
        (repeat (first | refine swp_seq ?_ | refine swp_block ?_))
        refine swp_true (by rfl) ?_
        (repeat (first | refine swp_seq ?_ | refine swp_block ?_)); refine swp_region (by kernel_rfl) ?_
        repeat (first | refine x_move (by rfl) ?_ | refine x_as (by rfl) (by rfl) ?_ | refine x_skip (by rfl) ?_ | refine x_fld (by rfl) (by rfl) FldO.h ?_ | refine x_nilck (by rfl) (by rfl) ?_ | refine x_len (by rfl) (by rfl) ElOf.some ?_ | refine x_ext (by rfl) (by rfl) (by rfl) ?_ | refine x_pickT (by rfl) (by rfl) (by rfl) ?_ | refine x_pickF (by rfl) (by rfl) (by rfl) ?_ | refine x_add (by rfl) (by rfl) (by rfl) (by omega) ?_ | refine x_sub (by rfl) (by rfl) (by rfl) (by omega) ?_ | refine x_not (by rfl) (by rfl) ?_)
        refine w_load (by rfl) (by rfl) (load_agg (xs := y.cells) AggT.h h5 (by rfl) (by rfl)) ?_
        refine w_bslice (e := 40) (cs := y.cells) (by rfl) (by rfl) (by rfl) (by kernel_rfl) ?_
        intro b6 w6 e6 u6 h6
        have hc6 := hc5.at u6
        refine w_append (more := []) (news := y.cells) (by rfl) (by rfl) (by rfl) (by rfl) SlC.h (hO.own.at hc6.ext) (by rw [List.append_nil]; exact h6) (wt_len _) (wt_one _) (by omega) (hr.le (by omega)) ?_
        intro so' w7 hown7 u7 hin7
        repeat (first | refine x_move (by rfl) ?_ | refine x_as (by rfl) (by rfl) ?_ | refine x_skip (by rfl) ?_ | refine x_fld (by rfl) (by rfl) FldO.h ?_ | refine x_nilck (by rfl) (by rfl) ?_ | refine x_len (by rfl) (by rfl) ElOf.some ?_ | refine x_ext (by rfl) (by rfl) (by rfl) ?_ | refine x_pickT (by rfl) (by rfl) (by rfl) ?_ | refine x_pickF (by rfl) (by rfl) (by rfl) ?_ | refine x_add (by rfl) (by rfl) (by rfl) (by omega) ?_ | refine x_sub (by rfl) (by rfl) (by rfl) (by omega) ?_ | refine x_not (by rfl) (by rfl) ?_)
        refine x_nilw ?_
        (repeat (first | with_reducible refine n_then ?_ | with_reducible refine n_block ?_ | with_reducible refine n_jump ?_))
        have hO7 := hO.push (T := tWt) s2 hc6.rdy hc6.new hc6.ext hown7 u7 hin7
        have s6 := hc6.ext.size
        have u27 : Ext w w7 := (u2.trans hc6.ext).trans' u7 fun b hb h => by have := hO.new b h; omega
        have hL6 := hL.at hc6.ext
        have hL7 : Lst tWt 40 w w7 sl left := ⟨hL6.own.get u7 fun b hb h => d1 b h hb, fun z hz => tWt.get (hL6.each z hz) u7 (d3 z hz), hL6.new, hL6.newE, hL6.ap⟩
        have hi7 : ∀ b, isIn so' b → isIn so b ∨ w2.heap.size ≤ b := fun b hb => (hin7 b hb).imp id fun h => by omega
        refine ⟨rfl, so', sl, out ++ [y], left, at_ ⟨rfl, rfl, rfl, rfl, rfl, trivial⟩, hO7, hL7, ?_, ?_, by simp; omega, fun b hb h => ?_, fun z hz b hb h => ?_, fun z hz b hb h => ?_, fun z hz t ht b hb h => ?_, u27⟩
        · rw [List.map_append, hos, take_succ' hx, List.filter_append, List.map_append]
          simp [hbx, hc.says]
        · rw [hls, take_succ' hx, List.filter_append]
          simp [hbx]
        · rcases hi7 b hb with h2 | h2
          · exact d1 b h2 h
          · have := lsl b h; omega
        · rcases List.mem_append.1 hz with hz | hz
          · exact d2 z hz b hb h
          · rw [List.mem_singleton.1 hz] at hb
            have := yn b hb; have := lsl b h; omega
        · rcases hi7 b h with h2 | h2
          · exact d3 z hz b hb h2
          · have := ll z hz b hb; omega
        · rcases List.mem_append.1 hz with hz | hz
          · exact d4 z hz t ht b hb h
          · rw [List.mem_singleton.1 hz] at hb
            have := yn b hb; have := ll t ht b h; omega
      · have hbx : by_ mark x = false := by rw [← hby]; exact decide_eq_false hdec
        (repeat (first | refine swp_seq ?_ | refine swp_block ?_)); refine swp_region (by kernel_rfl) ?_
        repeat (first | refine x_move (by rfl) ?_ | refine x_as (by rfl) (by rfl) ?_ | refine x_skip (by rfl) ?_ | refine x_fld (by rfl) (by rfl) FldO.h ?_ | refine x_nilck (by rfl) (by rfl) ?_ | refine x_len (by rfl) (by rfl) ElOf.some ?_ | refine x_ext (by rfl) (by rfl) (by rfl) ?_ | refine x_pickT (by rfl) (by rfl) (by rfl) ?_ | refine x_pickF (by rfl) (by rfl) (by rfl) ?_ | refine x_add (by rfl) (by rfl) (by rfl) (by omega) ?_ | refine x_sub (by rfl) (by rfl) (by rfl) (by omega) ?_ | refine x_not (by rfl) (by rfl) ?_)
        refine w_load (by rfl) (by rfl) (load_one (v := .int .i64 y.m.dec) OneT.h h5 (by rfl)) ?_
        repeat (first | refine x_move (by rfl) ?_ | refine x_as (by rfl) (by rfl) ?_ | refine x_skip (by rfl) ?_ | refine x_fld (by rfl) (by rfl) FldO.h ?_ | refine x_nilck (by rfl) (by rfl) ?_ | refine x_len (by rfl) (by rfl) ElOf.some ?_ | refine x_ext (by rfl) (by rfl) (by rfl) ?_ | refine x_pickT (by rfl) (by rfl) (by rfl) ?_ | refine x_pickF (by rfl) (by rfl) (by rfl) ?_ | refine x_add (by rfl) (by rfl) (by rfl) (by omega) ?_ | refine x_sub (by rfl) (by rfl) (by rfl) (by omega) ?_ | refine x_not (by rfl) (by rfl) ?_)
        refine x_leqF (by rfl) (by rfl) (by rfl) hdec ?_
        refine x_nilw ?_
        (repeat (first | refine swp_seq ?_ | refine swp_block ?_))
        refine swp_false (by rfl) ?_
        (repeat (first | refine swp_seq ?_ | refine swp_block ?_)); refine swp_region (by kernel_rfl) ?_
        repeat (first | refine x_move (by rfl) ?_ | refine x_as (by rfl) (by rfl) ?_ | refine x_skip (by rfl) ?_ | refine x_fld (by rfl) (by rfl) FldO.h ?_ | refine x_nilck (by rfl) (by rfl) ?_ | refine x_len (by rfl) (by rfl) ElOf.some ?_ | refine x_ext (by rfl) (by rfl) (by rfl) ?_ | refine x_pickT (by rfl) (by rfl) (by rfl) ?_ | refine x_pickF (by rfl) (by rfl) (by rfl) ?_ | refine x_add (by rfl) (by rfl) (by rfl) (by omega) ?_ | refine x_sub (by rfl) (by rfl) (by rfl) (by omega) ?_ | refine x_not (by rfl) (by rfl) ?_)
        refine w_load (by rfl) (by rfl) (load_agg (xs := y.cells) AggT.h h5 (by rfl) (by rfl)) ?_
        refine w_bslice (e := 40) (cs := y.cells) (by rfl) (by rfl) (by rfl) (by kernel_rfl) ?_
        intro b6 w6 e6 u6 h6
        have hc6 := hc5.at u6
        refine w_append (more := []) (news := y.cells) (by rfl) (by rfl) (by rfl) (by rfl) SlC.h (hL.own.at hc6.ext) (by rw [List.append_nil]; exact h6) (wt_len _) (wt_one _) (by omega) (hr.le (by omega)) ?_
        intro sl' w7 hown7 u7 hin7
        repeat (first | refine x_move (by rfl) ?_ | refine x_as (by rfl) (by rfl) ?_ | refine x_skip (by rfl) ?_ | refine x_fld (by rfl) (by rfl) FldO.h ?_ | refine x_nilck (by rfl) (by rfl) ?_ | refine x_len (by rfl) (by rfl) ElOf.some ?_ | refine x_ext (by rfl) (by rfl) (by rfl) ?_ | refine x_pickT (by rfl) (by rfl) (by rfl) ?_ | refine x_pickF (by rfl) (by rfl) (by rfl) ?_ | refine x_add (by rfl) (by rfl) (by rfl) (by omega) ?_ | refine x_sub (by rfl) (by rfl) (by rfl) (by omega) ?_ | refine x_not (by rfl) (by rfl) ?_)
        refine x_nilw ?_
        (repeat (first | with_reducible refine n_then ?_ | with_reducible refine n_block ?_ | with_reducible refine n_jump ?_))
        have hL7 := hL.push (T := tWt) s2 hc6.rdy hc6.new hc6.ext hown7 u7 hin7
        have s6 := hc6.ext.size
        have u27 : Ext w w7 := (u2.trans hc6.ext).trans' u7 fun b hb h => by have := hL.new b h; omega
        have hO6 := hO.at hc6.ext
        have hO7 : Lst tWt 40 w w7 so out := ⟨hO6.own.get u7 fun b hb h => d1 b hb h, fun z hz => tWt.get (hO6.each z hz) u7 (d2 z hz), hO6.new, hO6.newE, hO6.ap⟩
        have hi7 : ∀ b, isIn sl' b → isIn sl b ∨ w2.heap.size ≤ b := fun b hb => (hin7 b hb).imp id fun h => by omega
        refine ⟨rfl, so, sl', out, left ++ [y], at_ ⟨rfl, rfl, rfl, rfl, rfl, trivial⟩, hO7, hL7, ?_, ?_, by simp; omega, fun b hb h => ?_, fun z hz b hb h => ?_, fun z hz b hb h => ?_, fun z hz t ht b hb h => ?_, u27⟩
        · rw [hos, take_succ' hx, List.filter_append]
          simp [hbx]
        · rw [List.map_append, hls, take_succ' hx, List.filter_append, List.map_append]
          simp [hbx, hc.says]
        · rcases hi7 b h with h2 | h2
          · exact d1 b hb h2
          · have := lso b hb; omega
        · rcases hi7 b h with h2 | h2
          · exact d2 z hz b hb h2
          · have := lo z hz b hb; omega
        · rcases List.mem_append.1 hz with hz | hz
          · exact d3 z hz b hb h
          · rw [List.mem_singleton.1 hz] at hb
            have := yn b hb; have := lso b h; omega
        · rcases List.mem_append.1 ht with ht | ht
          · exact d4 z hz t ht b hb h
          · rw [List.mem_singleton.1 ht] at h
            have := yn b h; have := lo z hz b hb; omega
    rintro σ w8 ⟨so, sl, out, left, ⟨ρ, rfl⟩, q1, q2, q3, q4, q5, q6, q7, q8, q9, q10⟩
    (repeat (first | with_reducible refine n_then ?_ | with_reducible refine n_block ?_ | with_reducible refine n_jump ?_))
    (repeat (first | refine swp_seq ?_ | refine swp_block ?_)); refine swp_region (by kernel_rfl) ?_
    repeat (first | refine x_move (by rfl) ?_ | refine x_as (by rfl) (by rfl) ?_ | refine x_skip (by rfl) ?_ | refine x_fld (by rfl) (by rfl) FldO.h ?_ | refine w_load (by rfl) (by rfl) (load_one OneT.h (by assumption) (by rfl)) ?_ | refine x_nilck (by rfl) (by rfl) ?_ | refine x_len (by rfl) (by rfl) ElOf.some ?_ | refine x_iface (by rfl) (by rfl) NIf.h ?_ | refine x_ext (by rfl) (by rfl) (by rfl) ?_ | refine x_pickT (by rfl) (by rfl) (by rfl) ?_ | refine x_pickF (by rfl) (by rfl) (by rfl) ?_ | refine x_add (by rfl) (by rfl) (by rfl) (by omega) ?_ | refine x_sub (by rfl) (by rfl) (by rfl) (by omega) ?_ | refine x_lss (by rfl) (by rfl) (by rfl) ?_ | refine x_geq (by rfl) (by rfl) (by rfl) ?_ | refine x_leq (by rfl) (by rfl) (by rfl) ?_ | refine x_gtr (by rfl) (by rfl) (by rfl) ?_ | refine x_eql (by rfl) (by rfl) (by rfl) ?_ | refine x_neq (by rfl) (by rfl) (by rfl) ?_ | refine x_not (by rfl) (by rfl) ?_)
    refine x_nilw ?_
    exact ⟨i + 1, ⟨so, sl, out, left, at_ ⟨rfl, rfl, rfl, rfl, rfl, trivial⟩, hi', q1, q2, q3, q4, q5, q6, q7, q8, q9, q10⟩, by omega⟩
  · have hin : i = S.length := by omega
    rw [hin, List.take_length] at hos hls
    rw [(filter_take hD.rise).1] at hos
    rw [(filter_take hD.rise).2] at hls
    refine swp_exit ?_; (repeat (first | with_reducible refine e_then ?_ | with_reducible refine e_jump ?_)); refine e_block ?_; (repeat (first | with_reducible refine n_then ?_ | with_reducible refine n_block ?_ | with_reducible refine n_jump ?_))
    refine swp_fit [(0, .pointer (some ⟨bm, 0, none⟩)), (5, so), (6, sl)] ⟨rfl, rfl, rfl, trivial⟩ fun ρ => ?_
    obtain ⟨al, cl, rfl⟩ := hL.own.slice
    (repeat (first | refine swp_seq ?_ | refine swp_block ?_)); refine swp_region (by kernel_rfl) ?_
    repeat (first | refine x_move (by rfl) ?_ | refine x_as (by rfl) (by rfl) ?_ | refine x_skip (by rfl) ?_ | refine x_fld (by rfl) (by rfl) FldO.h ?_ | refine x_nilck (by rfl) (by rfl) ?_ | refine x_len (by rfl) (by rfl) ElOf.some ?_ | refine x_ext (by rfl) (by rfl) (by rfl) ?_ | refine x_pickT (by rfl) (by rfl) (by rfl) ?_ | refine x_pickF (by rfl) (by rfl) (by rfl) ?_ | refine x_add (by rfl) (by rfl) (by rfl) (by omega) ?_ | refine x_sub (by rfl) (by rfl) (by rfl) (by omega) ?_ | refine x_not (by rfl) (by rfl) ?_)
    refine w_store (xs := [.slice al left.length cl]) (by rfl) (by rfl) (by rfl) (by rfl) SzT.h (by rfl) (by rfl) hb2 (by simp) ?_
    intro w3 u3 h3 _
    refine x_nilw ?_
    replace h3 : Blk w3 bm 103 [.slice al left.length cl] := h3
    have hbl := hb.lt
    have s2 := u2.size
    (repeat (first | refine swp_seq ?_ | refine swp_block ?_)); refine swp_region (by kernel_rfl) ?_
    repeat (first | refine x_move (by rfl) ?_ | refine x_as (by rfl) (by rfl) ?_ | refine x_skip (by rfl) ?_ | refine x_fld (by rfl) (by rfl) FldO.h ?_ | refine x_nilck (by rfl) (by rfl) ?_ | refine x_len (by rfl) (by rfl) ElOf.some ?_ | refine x_ext (by rfl) (by rfl) (by rfl) ?_ | refine x_pickT (by rfl) (by rfl) (by rfl) ?_ | refine x_pickF (by rfl) (by rfl) (by rfl) ?_ | refine x_add (by rfl) (by rfl) (by rfl) (by omega) ?_ | refine x_sub (by rfl) (by rfl) (by rfl) (by omega) ?_ | refine x_not (by rfl) (by rfl) ?_)
    refine x_nilw ?_
    refine swp_ret ?_; (repeat (first | with_reducible refine r_then ?_ | with_reducible refine r_block ?_ | with_reducible refine r_jump ?_))
    have nO : ∀ b, isIn so b → b ≠ bm := fun b hb => by have := hO.new b hb; omega
    have hO3 : Lst tWt 40 w w3 so out := hO.get u3 fun b hb _ e => by have e' : b = bm := e; omega
    have hL3 : Lst tWt 40 w w3 (.slice al left.length cl) left := hL.get u3 fun b hb _ e => by have e' : b = bm := e; omega
    have hrl : Rise left := rise_says hls (hD.rise.sublist (List.dropWhile_sublist _))
    refine post1 rfl rfl ⟨_, rfl, out, left, fun b => b = bm ∨ isIn (.slice al left.length cl) b ∨ ∃ z ∈ left, z.In b, hO3, hos, ⟨_, ⟨h3, hL3.own, hL3.each, fun z hz b hb => ⟨by have := hL.newE z hz b hb; omega, hL.ap z hz b hb⟩, hrl⟩, .inl rfl, fun b hb => .inr (.inl hb), fun z hz b hb => .inr (.inr ⟨z, hz, hb⟩)⟩, hls, (u2.of _).trans' u3 fun b _ e => by have e' : b = bm := e; rw [e']; exact g1, fun b hb => ?_, fun b hb h => ?_, fun y hy b hb h => ?_⟩
    · rcases hb with h | h | ⟨z, hz, h⟩
      · rw [h]; exact .inl g1
      · exact .inr (hL.new b h)
      · exact .inr (hL.newE z hz b h)
    · rcases h with h | h | ⟨z, hz, h⟩
      · exact nO b hb h
      · exact d1 b hb h
      · exact d3 z hz b h hb
    · rcases h with h | h | ⟨z, hz, h⟩
      · have := hO.newE y hy b hb; omega
      · exact d2 y hy b hb h
      · exact d4 y hy z hz b hb h
end Go.Proofs.Ytpnigekkbmanlaa
