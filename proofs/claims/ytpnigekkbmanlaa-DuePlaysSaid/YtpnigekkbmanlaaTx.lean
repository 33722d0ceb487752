/- The document's copy of what waits (layer 14). Conditions: what is read; room. -/
import Derived.Test.YtpnigekkbmanlaaWt
import Derived.Test.YtpnigekkbmanlaaTw
namespace Go.Proofs.Ytpnigekkbmanlaa
open Sx Hp

set_option maxHeartbeats 1000000 in
set_option maxRecDepth 100000 in
theorem twin_waiting (x : Wt) (w : World) (hx : x.Rdy w) : Gets Try.prog 55 [x.v] w fun v w' => ∃ y : Wt, v = y.v ∧ CopyW w w' x y := by
  refine ⟨GoFn.h, calls_of_swp 46 Try.func55 Try.ntmps55 rfl (Nat.le_of_ble_eq_true rfl) ?_⟩
  (repeat (first | refine swp_seq ?_ | refine swp_block ?_)); refine swp_region (by kernel_rfl) ?_
  refine w_boxA (by rfl) (by rfl) (by rfl) ?_; intro b1 w1 e1 u1 h1
  have l0 := h1.lt
  refine w_alloc (by rfl) (by rfl) ZeroT.h ?_; intro b2 w2 e2 u2 h2
  replace h1 : Blk w2 b1 40 x.cells := h1.at u2
  have s1 := u1.size; have s2 := u2.size
  refine x_nilw ?_
  have u := u1.trans u2
  have l2 := h2.lt
  (repeat (first | refine swp_seq ?_ | refine swp_block ?_)); refine swp_region (by kernel_rfl) ?_
  repeat (first | refine x_move (by rfl) ?_ | refine x_as (by rfl) (by rfl) ?_ | refine x_skip (by rfl) ?_ | refine x_fld (by rfl) (by rfl) FldO.h ?_ | refine x_nilck (by rfl) (by rfl) ?_ | refine x_len (by rfl) (by rfl) ElOf.some ?_ | refine x_ext (by rfl) (by rfl) (by rfl) ?_ | refine x_pickT (by rfl) (by rfl) (by rfl) ?_ | refine x_pickF (by rfl) (by rfl) (by rfl) ?_ | refine x_add (by rfl) (by rfl) (by rfl) (by omega) ?_ | refine x_sub (by rfl) (by rfl) (by rfl) (by omega) ?_ | refine x_not (by rfl) (by rfl) ?_)
  refine w_load (by rfl) (by rfl) (load_agg (xs := x.m.cells) AggT.h h1 (by rfl) (by rfl)) ?_
  refine w_call (by rfl) (by rfl) (by rfl) (twin_match x.m w2 (hx.m.at u) hx.sm) ?_
  rintro _ w3 ⟨y, rfl, hc⟩
  refine x_build (v := .agg [.int .i64 y.dec, .slice y.na y.names.length y.nc, .slice y.la y.lens.length y.lc, .slice y.va y.vals.length y.vc, .slice none 0 0].toArray) (by rfl) (by rfl) (fun _ => by kernel_rfl) ?_
  refine w_alloc (by rfl) (by rfl) ZeroT.h ?_; intro b3 w4 e4 u4 h4
  refine w_store (xs := [.int .i64 y.dec, .slice y.na y.names.length y.nc, .slice y.la y.lens.length y.lc, .slice y.va y.vals.length y.vc, .slice none 0 0]) (by rfl) (by rfl) (by rfl) (by rfl) SzT.h (by rfl) (by rfl) h4 (by simp) ?_
  intro w5 u5 h5 _
  refine x_nilw ?_
  have s3 := hc.ext.size; have s4 := u4.size; have s5 := u5.size
  have u35 : Ext w3 w5 := u4.trans' u5 fun b hb e => by have e' : b = b3 := e; omega
  have u25 := hc.ext.trans u35
  have uw5 := u.trans u25
  replace h5 : Blk w5 b3 40 [.int .i64 y.dec, .slice y.na y.names.length y.nc, .slice y.la y.lens.length y.lc, .slice y.va y.vals.length y.vc, .slice none 0 0] := h5
  have hyo : y.Own w5 := hc.own.get u35 fun _ _ h => h
  have hyn : ∀ b, y.At b → w2.heap.size ≤ b ∧ b < b3 := fun b hb => ⟨hc.new b hb, by have := hc.own.lt hb; omega⟩
  replace h1 := h1.at u25
  replace h2 := h2.at u25
  have rb := hx.rd.at uw5
  have l5 := h5.lt
  refine swp_fit [(1, .pointer (some ⟨b1, 0, none⟩)), (2, .pointer (some ⟨b2, 0, none⟩)), (3, .pointer (some ⟨b3, 0, none⟩))] ⟨rfl, rfl, rfl, trivial⟩ fun ρ => ?_
  have inx : ∀ b, x.In b → b < w.heap.size := fun b hb => hx.lt hb
  have hsb := hx.sb
  have hw5 : w.heap.size ≤ b3 := by have := uw5.size; have := u.size; omega
  have hb13 : b1 < b3 := by omega
  (repeat (first | refine swp_seq ?_ | refine swp_block ?_)); refine swp_region (by kernel_rfl) ?_
  repeat (first | refine x_move (by rfl) ?_ | refine x_as (by rfl) (by rfl) ?_ | refine x_skip (by rfl) ?_ | refine x_fld (by rfl) (by rfl) FldO.h ?_ | refine x_nilck (by rfl) (by rfl) ?_ | refine x_len (by rfl) (by rfl) ElOf.some ?_ | refine x_ext (by rfl) (by rfl) (by rfl) ?_ | refine x_pickT (by rfl) (by rfl) (by rfl) ?_ | refine x_pickF (by rfl) (by rfl) (by rfl) ?_ | refine x_add (by rfl) (by rfl) (by rfl) (by omega) ?_ | refine x_sub (by rfl) (by rfl) (by rfl) (by omega) ?_ | refine x_not (by rfl) (by rfl) ?_)
  refine x_nilw ?_
  refine swp_fit [(1, .pointer (some ⟨b1, 0, none⟩)), (2, .pointer (some ⟨b2, 0, none⟩)), (3, .pointer (some ⟨b3, 0, none⟩)), (4, .int .i64 ((0 : Nat) : Int))] ⟨rfl, rfl, rfl, rfl, trivial⟩ fun ρ => ?_
  (repeat (first | refine swp_seq ?_ | refine swp_block ?_))
  refine swp_loop (fun (i : Nat) σ w6 => ∃ sb out, At σ [(1, .pointer (some ⟨b1, 0, none⟩)), (2, .pointer (some ⟨b2, 0, none⟩)), (3, .pointer (some ⟨b3, 0, none⟩)), (4, .int .i64 (i : Nat))] ∧ i ≤ x.bs.length ∧ Blk w6 b3 40 [.int .i64 y.dec, .slice y.na y.names.length y.nc, .slice y.la y.lens.length y.lc, .slice y.va y.vals.length y.vc, sb] ∧ Lst tEl 86 w5 w6 sb out ∧ out.map El.evs = (x.bs.take i).map El.evs ∧ Upd (fun b => b = b3) w5 w6) (fun i => x.bs.length - i) 0 ⟨.slice none 0 0, [], at_ ⟨rfl, rfl, rfl, rfl, trivial⟩, by omega, h5, Lst.nil _ _ _ _, by simp, Upd.refl _ _⟩ ?_
  rintro i σ w6 ⟨sb, out, ⟨ρ, rfl⟩, hi, h6, hL, hev, u6⟩
  have hlo : out.length = i := by have := congrArg List.length hev; simp at this; omega
  have s6 := u6.size
  have rb6 := rb.get0 u6 fun b h0 hb e => by have := hx.rd.lt0 h0 hb; have e' : b = b3 := e; omega
  have h16 := h1.get u6 (by omega)
  have uw6 : Ext w w6 := uw5.trans' u6 fun b hb e => by have e' : b = b3 := e; omega
  obtain ⟨asb, csb, rfl⟩ := hL.own.slice
  (repeat (first | refine swp_seq ?_ | refine swp_block ?_)); refine swp_region (by kernel_rfl) ?_
  repeat (first | refine x_move (by rfl) ?_ | refine x_as (by rfl) (by rfl) ?_ | refine x_skip (by rfl) ?_ | refine x_fld (by rfl) (by rfl) FldO.h ?_ | refine x_nilck (by rfl) (by rfl) ?_ | refine x_len (by rfl) (by rfl) ElOf.some ?_ | refine x_ext (by rfl) (by rfl) (by rfl) ?_ | refine x_pickT (by rfl) (by rfl) (by rfl) ?_ | refine x_pickF (by rfl) (by rfl) (by rfl) ?_ | refine x_add (by rfl) (by rfl) (by rfl) (by omega) ?_ | refine x_sub (by rfl) (by rfl) (by rfl) (by omega) ?_ | refine x_not (by rfl) (by rfl) ?_)
  refine w_load (by rfl) (by rfl) (load_one (v := .slice x.ba x.bs.length x.bc) OneT.h h16 (by rfl)) ?_
  repeat (first | refine x_move (by rfl) ?_ | refine x_as (by rfl) (by rfl) ?_ | refine x_skip (by rfl) ?_ | refine x_fld (by rfl) (by rfl) FldO.h ?_ | refine w_load (by rfl) (by rfl) (load_one OneT.h (by assumption) (by rfl)) ?_ | refine x_nilck (by rfl) (by rfl) ?_ | refine x_len (by rfl) (by rfl) ElOf.some ?_ | refine x_iface (by rfl) (by rfl) NIf.h ?_ | refine x_ext (by rfl) (by rfl) (by rfl) ?_ | refine x_pickT (by rfl) (by rfl) (by rfl) ?_ | refine x_pickF (by rfl) (by rfl) (by rfl) ?_ | refine x_add (by rfl) (by rfl) (by rfl) (by omega) ?_ | refine x_sub (by rfl) (by rfl) (by rfl) (by omega) ?_ | refine x_lss (by rfl) (by rfl) (by rfl) ?_ | refine x_geq (by rfl) (by rfl) (by rfl) ?_ | refine x_leq (by rfl) (by rfl) (by rfl) ?_ | refine x_gtr (by rfl) (by rfl) (by rfl) ?_ | refine x_eql (by rfl) (by rfl) (by rfl) ?_ | refine x_neq (by rfl) (by rfl) (by rfl) ?_ | refine x_not (by rfl) (by rfl) ?_)
  refine x_nilw ?_
  (repeat (first | refine swp_seq ?_ | refine swp_block ?_))
  refine swp_if (by rfl) (fun h0 => swp_skip ?_) (fun h0 => ?_)
  · have hi' : i < x.bs.length := by omega
    obtain ⟨e, he⟩ := nthE hi'
    have hem := List.mem_of_getElem? he
    have eR := hx.each e hem
    have eR6 : e.Rdy w6 := Thing.at (T := tEl) eR uw6
    have hesm := eR.sm
    obtain ⟨p1, o1, d1, he1, -, -⟩ := rb.pos (by omega)
    simp only [Value.slice.injEq] at he1
    obtain ⟨ea1, _, rfl⟩ := he1
    rw [ea1] at rb6
    have g16 : Blk w6 b1 40 [.int .i64 x.m.dec, .slice x.m.na x.m.names.length x.m.nc, .slice x.m.la x.m.lens.length x.m.lc, .slice x.m.va x.m.vals.length x.m.vc, .slice (some ⟨p1, o1, none⟩) x.bs.length x.bc] := by rw [← ea1]; exact h16
    (repeat (first | with_reducible refine n_then ?_ | with_reducible refine n_block ?_ | with_reducible refine n_jump ?_))
    (repeat (first | refine swp_seq ?_ | refine swp_block ?_)); refine swp_region (by kernel_rfl) ?_
    repeat (first | refine x_move (by rfl) ?_ | refine x_as (by rfl) (by rfl) ?_ | refine x_skip (by rfl) ?_ | refine x_fld (by rfl) (by rfl) FldO.h ?_ | refine x_nilck (by rfl) (by rfl) ?_ | refine x_len (by rfl) (by rfl) ElOf.some ?_ | refine x_ext (by rfl) (by rfl) (by rfl) ?_ | refine x_pickT (by rfl) (by rfl) (by rfl) ?_ | refine x_pickF (by rfl) (by rfl) (by rfl) ?_ | refine x_add (by rfl) (by rfl) (by rfl) (by omega) ?_ | refine x_sub (by rfl) (by rfl) (by rfl) (by omega) ?_ | refine x_not (by rfl) (by rfl) ?_)
    refine x_nilw ?_
    refine swp_fit [(1, .pointer (some ⟨b1, 0, none⟩)), (2, .pointer (some ⟨b2, 0, none⟩)), (3, .pointer (some ⟨b3, 0, none⟩)), (4, .int .i64 (i : Nat)), (5, .slice none 0 0)] ⟨rfl, rfl, rfl, rfl, rfl, trivial⟩ fun ρ => ?_
    (repeat (first | refine swp_seq ?_ | refine swp_block ?_)); refine swp_region (by kernel_rfl) ?_
    repeat (first | refine x_move (by rfl) ?_ | refine x_as (by rfl) (by rfl) ?_ | refine x_skip (by rfl) ?_ | refine x_fld (by rfl) (by rfl) FldO.h ?_ | refine x_nilck (by rfl) (by rfl) ?_ | refine x_len (by rfl) (by rfl) ElOf.some ?_ | refine x_ext (by rfl) (by rfl) (by rfl) ?_ | refine x_pickT (by rfl) (by rfl) (by rfl) ?_ | refine x_pickF (by rfl) (by rfl) (by rfl) ?_ | refine x_add (by rfl) (by rfl) (by rfl) (by omega) ?_ | refine x_sub (by rfl) (by rfl) (by rfl) (by omega) ?_ | refine x_not (by rfl) (by rfl) ?_)
    refine x_nilw ?_
    refine n_then ?_
    refine PEv.swp_cutQ (fun σ w7 => ∃ se, At σ [(1, .pointer (some ⟨b1, 0, none⟩)), (2, .pointer (some ⟨b2, 0, none⟩)), (3, .pointer (some ⟨b3, 0, none⟩)), (4, .int .i64 (i : Nat)), (5, se)] ∧ Own w7 89 11 se e.evs.length (fl Ev.cells e.evs) ∧ (∀ b, isIn se b → w6.heap.size ≤ b) ∧ Ext w6 w7) ?_ ?_
    · (repeat (first | refine swp_seq ?_ | refine swp_block ?_))
      refine swp_loop (fun (j : Nat) σ w7 => ∃ se, At σ [(1, .pointer (some ⟨b1, 0, none⟩)), (2, .pointer (some ⟨b2, 0, none⟩)), (3, .pointer (some ⟨b3, 0, none⟩)), (4, .int .i64 (i : Nat)), (5, se), (6, .int .i64 (j : Nat))] ∧ j ≤ e.evs.length ∧ Own w7 89 11 se j (fl Ev.cells (e.evs.take j)) ∧ (∀ b, isIn se b → w6.heap.size ≤ b) ∧ Ext w6 w7) (fun j => e.evs.length - j) 0 ⟨.slice none 0 0, at_ ⟨rfl, rfl, rfl, rfl, rfl, rfl, trivial⟩, by omega, Own.nil _ _ _, fun b h => h.elim, Upd.refl _ _⟩ ?_
      rintro j σ w7 ⟨se, ⟨ρ, rfl⟩, hj, hse, hsb7, u7⟩
      have g17 := g16.at u7
      have rb7 := rb6.at u7
      have eR7 := eR6.rd.at u7
      (repeat (first | refine swp_seq ?_ | refine swp_block ?_)); refine swp_region (by kernel_rfl) ?_
      repeat (first | refine x_move (by rfl) ?_ | refine x_as (by rfl) (by rfl) ?_ | refine x_skip (by rfl) ?_ | refine x_fld (by rfl) (by rfl) FldO.h ?_ | refine x_nilck (by rfl) (by rfl) ?_ | refine x_len (by rfl) (by rfl) ElOf.some ?_ | refine x_ext (by rfl) (by rfl) (by rfl) ?_ | refine x_pickT (by rfl) (by rfl) (by rfl) ?_ | refine x_pickF (by rfl) (by rfl) (by rfl) ?_ | refine x_add (by rfl) (by rfl) (by rfl) (by omega) ?_ | refine x_sub (by rfl) (by rfl) (by rfl) (by omega) ?_ | refine x_not (by rfl) (by rfl) ?_)
      refine w_load (by rfl) (by rfl) (load_one OneT.h g17 (by rfl)) ?_
      repeat (first | refine x_move (by rfl) ?_ | refine x_as (by rfl) (by rfl) ?_ | refine x_skip (by rfl) ?_ | refine x_fld (by rfl) (by rfl) FldO.h ?_ | refine x_nilck (by rfl) (by rfl) ?_ | refine x_len (by rfl) (by rfl) ElOf.some ?_ | refine x_ext (by rfl) (by rfl) (by rfl) ?_ | refine x_pickT (by rfl) (by rfl) (by rfl) ?_ | refine x_pickF (by rfl) (by rfl) (by rfl) ?_ | refine x_add (by rfl) (by rfl) (by rfl) (by omega) ?_ | refine x_sub (by rfl) (by rfl) (by rfl) (by omega) ?_ | refine x_not (by rfl) (by rfl) ?_)
      refine x_idx i (by rfl) (by rfl) (by rfl) ElSz.h rfl hi' ?_
      refine w_load (by rfl) (by rfl) (load_one_cell OneT.h (rd_cell (v := .slice e.a e.evs.length e.c) (j := 0) el_len rb7 he rfl rfl rfl)) ?_
      repeat (first | refine x_move (by rfl) ?_ | refine x_as (by rfl) (by rfl) ?_ | refine x_skip (by rfl) ?_ | refine x_fld (by rfl) (by rfl) FldO.h ?_ | refine w_load (by rfl) (by rfl) (load_one OneT.h (by assumption) (by rfl)) ?_ | refine x_nilck (by rfl) (by rfl) ?_ | refine x_len (by rfl) (by rfl) ElOf.some ?_ | refine x_iface (by rfl) (by rfl) NIf.h ?_ | refine x_ext (by rfl) (by rfl) (by rfl) ?_ | refine x_pickT (by rfl) (by rfl) (by rfl) ?_ | refine x_pickF (by rfl) (by rfl) (by rfl) ?_ | refine x_add (by rfl) (by rfl) (by rfl) (by omega) ?_ | refine x_sub (by rfl) (by rfl) (by rfl) (by omega) ?_ | refine x_lss (by rfl) (by rfl) (by rfl) ?_ | refine x_geq (by rfl) (by rfl) (by rfl) ?_ | refine x_leq (by rfl) (by rfl) (by rfl) ?_ | refine x_gtr (by rfl) (by rfl) (by rfl) ?_ | refine x_eql (by rfl) (by rfl) (by rfl) ?_ | refine x_neq (by rfl) (by rfl) (by rfl) ?_ | refine x_not (by rfl) (by rfl) ?_)
      refine x_nilw ?_
      (repeat (first | refine swp_seq ?_ | refine swp_block ?_))
      refine swp_if (by rfl) (fun h1' => swp_skip ?_) (fun h1' => ?_)
      · have hj' : j < e.evs.length := by omega
        obtain ⟨nx, hnx⟩ := nthE hj'
        obtain ⟨p2, o2, d2, he2, -, -⟩ := eR7.pos (by omega)
        simp only [Value.slice.injEq] at he2
        obtain ⟨ea2, _, rfl⟩ := he2
        rw [ea2] at eR7
        (repeat (first | with_reducible refine n_then ?_ | with_reducible refine n_block ?_ | with_reducible refine n_jump ?_))
        refine swp_fit [(1, .pointer (some ⟨b1, 0, none⟩)), (2, .pointer (some ⟨b2, 0, none⟩)), (3, .pointer (some ⟨b3, 0, none⟩)), (4, .int .i64 (i : Nat)), (5, se), (6, .int .i64 (j : Nat))] ⟨rfl, rfl, rfl, rfl, rfl, rfl, trivial⟩ fun ρ => ?_
        (repeat (first | refine swp_seq ?_ | refine swp_block ?_)); refine swp_region (by kernel_rfl) ?_
        repeat (first | refine x_move (by rfl) ?_ | refine x_as (by rfl) (by rfl) ?_ | refine x_skip (by rfl) ?_ | refine x_fld (by rfl) (by rfl) FldO.h ?_ | refine x_nilck (by rfl) (by rfl) ?_ | refine x_len (by rfl) (by rfl) ElOf.some ?_ | refine x_ext (by rfl) (by rfl) (by rfl) ?_ | refine x_pickT (by rfl) (by rfl) (by rfl) ?_ | refine x_pickF (by rfl) (by rfl) (by rfl) ?_ | refine x_add (by rfl) (by rfl) (by rfl) (by omega) ?_ | refine x_sub (by rfl) (by rfl) (by rfl) (by omega) ?_ | refine x_not (by rfl) (by rfl) ?_)
        refine w_load (by rfl) (by rfl) (load_one OneT.h g17 (by rfl)) ?_
        repeat (first | refine x_move (by rfl) ?_ | refine x_as (by rfl) (by rfl) ?_ | refine x_skip (by rfl) ?_ | refine x_fld (by rfl) (by rfl) FldO.h ?_ | refine x_nilck (by rfl) (by rfl) ?_ | refine x_len (by rfl) (by rfl) ElOf.some ?_ | refine x_ext (by rfl) (by rfl) (by rfl) ?_ | refine x_pickT (by rfl) (by rfl) (by rfl) ?_ | refine x_pickF (by rfl) (by rfl) (by rfl) ?_ | refine x_add (by rfl) (by rfl) (by rfl) (by omega) ?_ | refine x_sub (by rfl) (by rfl) (by rfl) (by omega) ?_ | refine x_not (by rfl) (by rfl) ?_)
        refine x_idx i (by rfl) (by rfl) (by rfl) ElSz.h rfl hi' ?_
        refine w_load (by rfl) (by rfl) (load_one_cell OneT.h (rd_cell (v := .slice (some ⟨p2, o2, none⟩) e.evs.length e.c) (j := 0) el_len rb7 he (by rw [← ea2]; rfl) rfl rfl)) ?_
        repeat (first | refine x_move (by rfl) ?_ | refine x_as (by rfl) (by rfl) ?_ | refine x_skip (by rfl) ?_ | refine x_fld (by rfl) (by rfl) FldO.h ?_ | refine x_nilck (by rfl) (by rfl) ?_ | refine x_len (by rfl) (by rfl) ElOf.some ?_ | refine x_ext (by rfl) (by rfl) (by rfl) ?_ | refine x_pickT (by rfl) (by rfl) (by rfl) ?_ | refine x_pickF (by rfl) (by rfl) (by rfl) ?_ | refine x_add (by rfl) (by rfl) (by rfl) (by omega) ?_ | refine x_sub (by rfl) (by rfl) (by rfl) (by omega) ?_ | refine x_not (by rfl) (by rfl) ?_)
        refine x_idx j (by rfl) (by rfl) (by rfl) ElSz.h rfl hj' ?_
        refine w_load (by rfl) (by rfl) (rd_load ev_len AggT.h eR7 hnx rfl rfl) ?_
        refine w_bslice (e := 89) (cs := nx.cells) (by rfl) (by rfl) (by rfl) (by kernel_rfl) ?_
        intro b8 w8 e8 u8 h8
        refine w_append (more := []) (news := nx.cells) (by rfl) (by rfl) (by rfl) (by rfl) SlC.h (hse.at u8) (by rw [List.append_nil]; exact h8) (by rfl) (by rfl) (by omega) ((room_of hesm (by omega)).le (by omega)) ?_
        intro se' w9 own9 u9 in9
        repeat (first | refine x_move (by rfl) ?_ | refine x_as (by rfl) (by rfl) ?_ | refine x_skip (by rfl) ?_ | refine x_fld (by rfl) (by rfl) FldO.h ?_ | refine x_nilck (by rfl) (by rfl) ?_ | refine x_len (by rfl) (by rfl) ElOf.some ?_ | refine x_ext (by rfl) (by rfl) (by rfl) ?_ | refine x_pickT (by rfl) (by rfl) (by rfl) ?_ | refine x_pickF (by rfl) (by rfl) (by rfl) ?_ | refine x_add (by rfl) (by rfl) (by rfl) (by omega) ?_ | refine x_sub (by rfl) (by rfl) (by rfl) (by omega) ?_ | refine x_not (by rfl) (by rfl) ?_)
        refine x_nilw ?_
        rw [take_fl hnx] at own9
        (repeat (first | with_reducible refine n_then ?_ | with_reducible refine n_block ?_ | with_reducible refine n_jump ?_))
        (repeat (first | refine swp_seq ?_ | refine swp_block ?_)); refine swp_region (by kernel_rfl) ?_
        repeat (first | refine x_move (by rfl) ?_ | refine x_as (by rfl) (by rfl) ?_ | refine x_skip (by rfl) ?_ | refine x_fld (by rfl) (by rfl) FldO.h ?_ | refine w_load (by rfl) (by rfl) (load_one OneT.h (by assumption) (by rfl)) ?_ | refine x_nilck (by rfl) (by rfl) ?_ | refine x_len (by rfl) (by rfl) ElOf.some ?_ | refine x_iface (by rfl) (by rfl) NIf.h ?_ | refine x_ext (by rfl) (by rfl) (by rfl) ?_ | refine x_pickT (by rfl) (by rfl) (by rfl) ?_ | refine x_pickF (by rfl) (by rfl) (by rfl) ?_ | refine x_add (by rfl) (by rfl) (by rfl) (by omega) ?_ | refine x_sub (by rfl) (by rfl) (by rfl) (by omega) ?_ | refine x_lss (by rfl) (by rfl) (by rfl) ?_ | refine x_geq (by rfl) (by rfl) (by rfl) ?_ | refine x_leq (by rfl) (by rfl) (by rfl) ?_ | refine x_gtr (by rfl) (by rfl) (by rfl) ?_ | refine x_eql (by rfl) (by rfl) (by rfl) ?_ | refine x_neq (by rfl) (by rfl) (by rfl) ?_ | refine x_not (by rfl) (by rfl) ?_)
        refine x_nilw ?_
        have s7 := u7.size; have s8 := u8.size
        refine ⟨j + 1, ⟨se', at_ ⟨rfl, rfl, rfl, rfl, rfl, rfl, trivial⟩, hj', own9, fun b hb => ?_, (u7.trans u8).trans' u9 fun b hb h => by have := hsb7 b h; omega⟩, by omega⟩
        rcases in9 b hb with h | h
        · exact hsb7 b h
        · omega
      · refine swp_exit ?_; (repeat (first | with_reducible refine e_then ?_ | with_reducible refine e_jump ?_)); refine e_block ?_; (repeat (first | with_reducible refine n_then ?_ | with_reducible refine n_block ?_ | with_reducible refine n_jump ?_))
        have hjn : j = e.evs.length := by omega
        subst hjn
        rw [List.take_length] at hse
        exact ⟨rfl, se, at_ ⟨rfl, rfl, rfl, rfl, rfl, trivial⟩, hse, hsb7, u7⟩
    rintro σ w7 ⟨se, ⟨ρ, rfl⟩, hse, hsb7, u7⟩
    refine n_then ?_
    have h67 := h6.at u7
    have hL7 := hL.at u7
    obtain ⟨ae, ce, rfl⟩ := hse.slice
    (repeat (first | refine swp_seq ?_ | refine swp_block ?_)); refine swp_region (by kernel_rfl) ?_
    repeat (first | refine x_move (by rfl) ?_ | refine x_as (by rfl) (by rfl) ?_ | refine x_skip (by rfl) ?_ | refine x_fld (by rfl) (by rfl) FldO.h ?_ | refine x_nilck (by rfl) (by rfl) ?_ | refine x_len (by rfl) (by rfl) ElOf.some ?_ | refine x_ext (by rfl) (by rfl) (by rfl) ?_ | refine x_pickT (by rfl) (by rfl) (by rfl) ?_ | refine x_pickF (by rfl) (by rfl) (by rfl) ?_ | refine x_add (by rfl) (by rfl) (by rfl) (by omega) ?_ | refine x_sub (by rfl) (by rfl) (by rfl) (by omega) ?_ | refine x_not (by rfl) (by rfl) ?_)
    refine w_load (by rfl) (by rfl) (load_one OneT.h h67 (by rfl)) ?_
    repeat (first | refine x_move (by rfl) ?_ | refine x_as (by rfl) (by rfl) ?_ | refine x_skip (by rfl) ?_ | refine x_fld (by rfl) (by rfl) FldO.h ?_ | refine x_nilck (by rfl) (by rfl) ?_ | refine x_len (by rfl) (by rfl) ElOf.some ?_ | refine x_ext (by rfl) (by rfl) (by rfl) ?_ | refine x_pickT (by rfl) (by rfl) (by rfl) ?_ | refine x_pickF (by rfl) (by rfl) (by rfl) ?_ | refine x_add (by rfl) (by rfl) (by rfl) (by omega) ?_ | refine x_sub (by rfl) (by rfl) (by rfl) (by omega) ?_ | refine x_not (by rfl) (by rfl) ?_)
    refine w_bslice (e := 86) (cs := [.slice ae e.evs.length ce]) (by rfl) (by rfl) (by rfl) (by kernel_rfl) ?_
    intro b8 w8 e8 u8 h8
    refine w_append (more := []) (news := [.slice ae e.evs.length ce]) (by rfl) (by rfl) (by rfl) (by rfl) SlC.h (hL7.own.at u8) (by rw [List.append_nil]; exact h8) (by rfl) (by rfl) (by omega) ((room_of hsb (by omega)).le (by omega)) ?_
    intro sb' w9 own' u9 in9
    obtain ⟨as', cs', rfl⟩ := own'.slice
    repeat (first | refine x_move (by rfl) ?_ | refine x_as (by rfl) (by rfl) ?_ | refine x_skip (by rfl) ?_ | refine x_fld (by rfl) (by rfl) FldO.h ?_ | refine x_nilck (by rfl) (by rfl) ?_ | refine x_len (by rfl) (by rfl) ElOf.some ?_ | refine x_ext (by rfl) (by rfl) (by rfl) ?_ | refine x_pickT (by rfl) (by rfl) (by rfl) ?_ | refine x_pickF (by rfl) (by rfl) (by rfl) ?_ | refine x_add (by rfl) (by rfl) (by rfl) (by omega) ?_ | refine x_sub (by rfl) (by rfl) (by rfl) (by omega) ?_ | refine x_not (by rfl) (by rfl) ?_)
    have s7 := u7.size; have s8 := u8.size
    refine w_store (xs := [.slice as' (out.length + 1) cs']) (by rfl) (by rfl) (by rfl) (by rfl) SzT.h (by rfl) (by rfl) ((h67.at u8).get u9 fun h => by have := hL.new b3 h; omega) (by simp) ?_
    intro w10 u10 h10 _
    refine x_nilw ?_
    replace h10 : Blk w10 b3 40 [.int .i64 y.dec, .slice y.na y.names.length y.nc, .slice y.la y.lens.length y.lc, .slice y.va y.vals.length y.vc, .slice as' (out.length + 1) cs'] := h10
    have u68 := u7.trans u8
    have hL9 := hL.push (T := tEl) (r := ⟨ae, ce, e.evs⟩) (w1 := w8) s6 ⟨hse.rd.at u8, hesm⟩ (fun b hb => hsb7 b hb.2) u68 own' u9 in9
    have hL10 := hL9.get u10 fun b hb _ hf => by have e' : b = b3 := hf; omega
    (repeat (first | with_reducible refine n_then ?_ | with_reducible refine n_block ?_ | with_reducible refine n_jump ?_))
    (repeat (first | refine swp_seq ?_ | refine swp_block ?_)); refine swp_region (by kernel_rfl) ?_
    repeat (first | refine x_move (by rfl) ?_ | refine x_as (by rfl) (by rfl) ?_ | refine x_skip (by rfl) ?_ | refine x_fld (by rfl) (by rfl) FldO.h ?_ | refine w_load (by rfl) (by rfl) (load_one OneT.h (by assumption) (by rfl)) ?_ | refine x_nilck (by rfl) (by rfl) ?_ | refine x_len (by rfl) (by rfl) ElOf.some ?_ | refine x_iface (by rfl) (by rfl) NIf.h ?_ | refine x_ext (by rfl) (by rfl) (by rfl) ?_ | refine x_pickT (by rfl) (by rfl) (by rfl) ?_ | refine x_pickF (by rfl) (by rfl) (by rfl) ?_ | refine x_add (by rfl) (by rfl) (by rfl) (by omega) ?_ | refine x_sub (by rfl) (by rfl) (by rfl) (by omega) ?_ | refine x_lss (by rfl) (by rfl) (by rfl) ?_ | refine x_geq (by rfl) (by rfl) (by rfl) ?_ | refine x_leq (by rfl) (by rfl) (by rfl) ?_ | refine x_gtr (by rfl) (by rfl) (by rfl) ?_ | refine x_eql (by rfl) (by rfl) (by rfl) ?_ | refine x_neq (by rfl) (by rfl) (by rfl) ?_ | refine x_not (by rfl) (by rfl) ?_)
    refine x_nilw ?_
    exact ⟨i + 1, ⟨_, _, at_ ⟨rfl, rfl, rfl, rfl, trivial⟩, hi', h10, hL10, by rw [List.map_append, hev, take_succ' he, List.map_append]; rfl, ((u6.ext u68).trans' u9 fun b hb h => by have := hL.new b h; omega).trans' u10 fun b _ h => h⟩, by omega⟩
  · have hin : i = x.bs.length := by omega
    rw [hin, List.take_length] at hev
    refine swp_exit ?_; (repeat (first | with_reducible refine e_then ?_ | with_reducible refine e_jump ?_)); refine e_block ?_; (repeat (first | with_reducible refine n_then ?_ | with_reducible refine n_block ?_ | with_reducible refine n_jump ?_))
    refine swp_fit [(2, .pointer (some ⟨b2, 0, none⟩)), (3, .pointer (some ⟨b3, 0, none⟩))] ⟨rfl, rfl, trivial⟩ fun ρ => ?_
    obtain ⟨z, hz⟩ : ∃ z : Wt, z = ⟨y, asb, csb, out⟩ := ⟨_, rfl⟩
    have hzc : z.cells = [.int .i64 y.dec, .slice y.na y.names.length y.nc, .slice y.la y.lens.length y.lc, .slice y.va y.vals.length y.vc, .slice asb out.length csb] := by rw [hz]; rfl
    rw [← hzc] at h6
    have h26 := h2.get u6 (by omega)
    (repeat (first | refine swp_seq ?_ | refine swp_block ?_)); refine swp_region (by kernel_rfl) ?_
    refine w_load (by rfl) (by rfl) (load_agg (xs := z.cells) AggT.h h6 (by rfl) (by rfl)) ?_
    refine w_store (xs := z.cells) (by rfl) (by rfl) (by rfl) (by rfl) SzT.h (by rfl) (by rfl) h26 (by simp) ?_
    intro w7 u7 h7 _
    refine x_nilw ?_
    refine swp_ret ?_; (repeat (first | with_reducible refine r_then ?_ | with_reducible refine r_block ?_ | with_reducible refine r_jump ?_))
    have hy6 : y.Rdy w6 := hyo.rdy.get u6 fun b hb e => by have := (hyn b hb.at).2; have e' : b = b3 := e; omega
    have hlb : out.length * 24 ≤ 140737488351232 := by rw [hlo, hin]; exact hx.sb
    have hz6 : z.Rdy w6 := by rw [hz]; exact ⟨hy6, hL.own.rd, hL.each, hyo.sm, hlb⟩
    have hzn : ∀ b, z.In b → w2.heap.size ≤ b := fun b hb => by
      rw [hz] at hb
      rcases hb with h | h | ⟨e, he, h⟩
      · exact (hyn b h.at).1
      · have := hL.new b h.2; have := u25.size; omega
      · have := hL.newE e he b h; have := u25.size; omega
    have su := u.size
    refine postC1 rfl rfl (load_agg (xs := z.cells) AggT.h h7 (by rfl) (by rfl)) ⟨_, rfl, z, rfl, ?_, hz6.get u7 fun b hb e => by have := hzn b hb; have e' : b = b2 := e; omega, fun b hb => by have := hzn b hb; omega, ?_⟩
    · rw [hz, Wt.says, Wt.says, hev, hc.says]
    · exact (uw5.trans' u6 fun b hb e => by have e' : b = b3 := e; omega).trans' u7 fun b hb e => by have e' : b = b2 := e; omega
end Go.Proofs.Ytpnigekkbmanlaa
