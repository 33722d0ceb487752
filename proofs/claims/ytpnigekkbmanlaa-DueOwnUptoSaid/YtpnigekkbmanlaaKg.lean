/- roomy: appending to lists that are owned whole changes none of them. Conditions: few things. -/
import Derived.Test.YtpnigekkbmanlaaKf
namespace Go.Proofs.Ytpnigekkbmanlaa
open Sx Hp

set_option maxHeartbeats 4000000 in
set_option maxRecDepth 100000 in
theorem roomy_ {w : World} {sv : Value} {xs : List Wt} (h : Rw w sv xs) (hx : ∀ x ∈ xs, x.Lo) (hl : xs.length ≤ 1048576) : Gets Try.prog 37 [sv] w fun v w' => v = .bool true ∧ Rw w' sv xs ∧ Upd (feet xs) w w' := by
  have hsl := h.rd.slice
  obtain ⟨a0, c0, rfl⟩ := hsl
  have hlt : ∀ b, feet xs b → b < w.heap.size := fun b ⟨x, hx, hb⟩ => x.as.lt (h.item hx) hb
  refine ⟨GoFn.h, calls_of_swp 103 Try.func37 Try.ntmps37 rfl (Nat.le_of_ble_eq_true rfl) ?_⟩
  (repeat (first | refine swp_seq ?_ | refine swp_block ?_)); refine swp_region (by kernel_rfl) ?_
  repeat (first | refine x_move (by rfl) ?_ | refine x_as (by rfl) (by rfl) ?_ | refine x_skip (by rfl) ?_ | refine x_fld (by rfl) (by rfl) FldO.h ?_)
  refine x_nilw ?_
  (repeat (first | refine swp_seq ?_ | refine swp_block ?_)); refine swp_region (by kernel_rfl) ?_
  repeat (first | refine x_move (by rfl) ?_ | refine x_as (by rfl) (by rfl) ?_ | refine x_skip (by rfl) ?_ | refine x_fld (by rfl) (by rfl) FldO.h ?_)
  refine w_call (by rfl) (by rfl) (by rfl) (copiedO h.rl (by omega)) ?_
  rintro was w1 ⟨out, hW, hsay, u1⟩
  repeat (first | refine x_move (by rfl) ?_ | refine x_as (by rfl) (by rfl) ?_ | refine x_skip (by rfl) ?_ | refine x_fld (by rfl) (by rfl) FldO.h ?_)
  refine x_nilw ?_
  (repeat (first | refine swp_seq ?_ | refine swp_block ?_)); refine swp_region (by kernel_rfl) ?_
  repeat (first | refine x_move (by rfl) ?_ | refine x_as (by rfl) (by rfl) ?_ | refine x_skip (by rfl) ?_ | refine x_fld (by rfl) (by rfl) FldO.h ?_)
  refine x_nilw ?_
  (repeat (first | refine swp_seq ?_ | refine swp_block ?_)); refine swp_region (by kernel_rfl) ?_
  repeat (first | refine x_move (by rfl) ?_ | refine x_as (by rfl) (by rfl) ?_ | refine x_skip (by rfl) ?_ | refine x_fld (by rfl) (by rfl) FldO.h ?_)
  refine x_nilw ?_
  refine swp_fit [(0, .slice a0 xs.length c0), (3, was), (4, .int .i64 ((0 : Nat) : Int)), (5, .int .i64 ((0 : Nat) : Int))] ⟨rfl, rfl, rfl, rfl, trivial⟩ fun ρ => ?_
  (repeat (first | refine swp_seq ?_ | refine swp_block ?_))
  refine swp_loop (fun (i : Nat) σ w' => ∃ n : Nat, At σ [(0, .slice a0 xs.length c0), (3, was), (4, .int .i64 (n : Nat)), (5, .int .i64 (i : Nat))] ∧ i ≤ xs.length ∧ n ≤ i * 1099517919239 ∧ Rw w' (.slice a0 xs.length c0) xs ∧ Upd (feet xs) w1 w') (fun i => xs.length - i) 0 ⟨0, at_ ⟨rfl, rfl, rfl, rfl, trivial⟩, by omega, by omega, h.at u1, Upd.refl _ _⟩ ?_
  rintro i σ w2 ⟨n, ⟨ρ, rfl⟩, hi, hn, hR, u2⟩
  (repeat (first | refine swp_seq ?_ | refine swp_block ?_)); refine swp_region (by kernel_rfl) ?_
  repeat (first | refine x_move (by rfl) ?_ | refine x_as (by rfl) (by rfl) ?_ | refine x_len (by rfl) (by rfl) ElOf.some ?_ | refine x_add (by rfl) (by rfl) (by rfl) (by omega) ?_ | refine x_lss (by rfl) (by rfl) (by rfl) ?_)
  refine x_nilw ?_
  (repeat (first | refine swp_seq ?_ | refine swp_block ?_))
  refine swp_if (by rfl) (fun hc => swp_skip ?_) (fun hc => ?_)
  · have hi' : i < xs.length := by omega
    have hxe := nthE hi'
    obtain ⟨x, hxi⟩ := hxe
    have hxm := List.mem_of_getElem? hxi
    have L := hx x hxm
    have Ln := L.n; have Ll := L.l; have Lv := L.v; have Lb := L.b
    have hps := h.rd.pos (by omega)
    obtain ⟨pb, po, pd, hpe, -, -⟩ := hps
    simp only [Value.slice.injEq] at hpe
    obtain ⟨rfl, _, rfl⟩ := hpe
    (repeat (first | with_reducible refine n_then ?_ | with_reducible refine n_block ?_ | with_reducible refine n_jump ?_))
    (repeat (first | refine swp_seq ?_ | refine swp_block ?_)); refine swp_region (by kernel_rfl) ?_
    repeat (first | refine x_move (by rfl) ?_ | refine x_as (by rfl) (by rfl) ?_ | refine x_skip (by rfl) ?_ | refine x_fld (by rfl) (by rfl) FldO.h ?_)
    refine x_idx i (by rfl) (by rfl) (by rfl) ElSz.h rfl hi' ?_
    repeat (first | refine x_move (by rfl) ?_ | refine x_as (by rfl) (by rfl) ?_ | refine x_skip (by rfl) ?_ | refine x_fld (by rfl) (by rfl) FldO.h ?_)
    refine w_load (by rfl) (by rfl) (load_one_cell OneT.h (rd_cell (v := .slice x.m.na x.m.names.length x.m.nc) (j := 1) wt_len hR.rd hxi rfl rfl rfl)) ?_
    refine x_build (v := .agg (nmk 501 0).cells.toArray) (by rfl) (by rfl) (fun _ => by kernel_rfl) ?_
    repeat (first | refine x_move (by rfl) ?_ | refine x_as (by rfl) (by rfl) ?_ | refine x_skip (by rfl) ?_ | refine x_fld (by rfl) (by rfl) FldO.h ?_)
    refine x_build (v := .agg (nmk 502 0).cells.toArray) (by rfl) (by rfl) (fun _ => by kernel_rfl) ?_
    repeat (first | refine x_move (by rfl) ?_ | refine x_as (by rfl) (by rfl) ?_ | refine x_skip (by rfl) ?_ | refine x_fld (by rfl) (by rfl) FldO.h ?_)
    refine w_bslice (e := 68) (cs := (nmk 501 0).cells ++ (nmk 502 0).cells) (by rfl) (by rfl) (by rfl) (by kernel_rfl) ?_
    intro b1 wb1 _ ub1 hb1
    have hR1 := hR.at ub1
    refine w_append3 (more := []) (news := (nmk 501 0).cells ++ (nmk 502 0).cells) (by rfl) (by rfl) (by rfl) (by rfl) SlC.h (Wt.own_n (hR1.item hxm)) (by rw [List.append_nil]; exact hb1) (by rfl) (by rfl) (by omega) (roomS (by omega) (by omega)) ?_
    intro gv1 wg1 og1 os1 ug1 _
    repeat (first | refine x_move (by rfl) ?_ | refine x_as (by rfl) (by rfl) ?_ | refine x_skip (by rfl) ?_ | refine x_fld (by rfl) (by rfl) FldO.h ?_)
    refine x_nilw ?_
    replace hR := hR1.keep hxm (List.mem_of_getElem? (i := 0) rfl) ug1 (fun b e => e) os1
    replace u2 := (u2.ext ub1).trans (ug1.mono fun b e => ⟨x, hxm, _, List.mem_of_getElem? (i := 0) rfl, e⟩)
    have sg1 := og1.slice
    obtain ⟨ga1, gc1, rfl⟩ := sg1
    clear hR1 os1 og1 ub1 ug1 hb1
    refine swp_fit [(0, .slice (some ⟨pb, po, none⟩) xs.length c0), (3, was), (4, .int .i64 (n : Nat)), (5, .int .i64 (i : Nat)), (6, .slice ga1 (x.m.names.length + 2) gc1)] ⟨rfl, rfl, rfl, rfl, rfl, trivial⟩ fun ρ => ?_
    (repeat (first | refine swp_seq ?_ | refine swp_block ?_)); refine swp_region (by kernel_rfl) ?_
    repeat (first | refine x_move (by rfl) ?_ | refine x_as (by rfl) (by rfl) ?_ | refine x_skip (by rfl) ?_ | refine x_fld (by rfl) (by rfl) FldO.h ?_)
    refine x_idx i (by rfl) (by rfl) (by rfl) ElSz.h rfl hi' ?_
    repeat (first | refine x_move (by rfl) ?_ | refine x_as (by rfl) (by rfl) ?_ | refine x_skip (by rfl) ?_ | refine x_fld (by rfl) (by rfl) FldO.h ?_)
    refine w_load (by rfl) (by rfl) (load_one_cell OneT.h (rd_cell (v := .slice x.m.la x.m.lens.length x.m.lc) (j := 2) wt_len hR.rd hxi rfl rfl rfl)) ?_
    refine w_bslice (e := 3) (cs := [.int .i64 503, .int .i64 504]) (by rfl) (by rfl) (by rfl) (by kernel_rfl) ?_
    intro b2 wb2 _ ub2 hb2
    have hR2 := hR.at ub2
    refine w_append3 (more := []) (news := [.int .i64 503, .int .i64 504]) (by rfl) (by rfl) (by rfl) (by rfl) SlC.h (Wt.own_l (hR2.item hxm)) (by rw [List.append_nil]; exact hb2) (by rfl) (by rfl) (by omega) (roomS (by omega) (by omega)) ?_
    intro gv2 wg2 og2 os2 ug2 _
    repeat (first | refine x_move (by rfl) ?_ | refine x_as (by rfl) (by rfl) ?_ | refine x_skip (by rfl) ?_ | refine x_fld (by rfl) (by rfl) FldO.h ?_)
    refine x_nilw ?_
    replace hR := hR2.keep hxm (List.mem_of_getElem? (i := 1) rfl) ug2 (fun b e => e) os2
    replace u2 := (u2.ext ub2).trans (ug2.mono fun b e => ⟨x, hxm, _, List.mem_of_getElem? (i := 1) rfl, e⟩)
    have sg2 := og2.slice
    obtain ⟨ga2, gc2, rfl⟩ := sg2
    clear hR2 os2 og2 ub2 ug2 hb2
    refine swp_fit [(0, .slice (some ⟨pb, po, none⟩) xs.length c0), (3, was), (4, .int .i64 (n : Nat)), (5, .int .i64 (i : Nat)), (6, .slice ga1 (x.m.names.length + 2) gc1), (7, .slice ga2 (x.m.lens.length + 2) gc2)] ⟨rfl, rfl, rfl, rfl, rfl, rfl, trivial⟩ fun ρ => ?_
    (repeat (first | refine swp_seq ?_ | refine swp_block ?_)); refine swp_region (by kernel_rfl) ?_
    repeat (first | refine x_move (by rfl) ?_ | refine x_as (by rfl) (by rfl) ?_ | refine x_skip (by rfl) ?_ | refine x_fld (by rfl) (by rfl) FldO.h ?_)
    refine x_idx i (by rfl) (by rfl) (by rfl) ElSz.h rfl hi' ?_
    repeat (first | refine x_move (by rfl) ?_ | refine x_as (by rfl) (by rfl) ?_ | refine x_skip (by rfl) ?_ | refine x_fld (by rfl) (by rfl) FldO.h ?_)
    refine w_load (by rfl) (by rfl) (load_one_cell OneT.h (rd_cell (v := .slice x.m.va x.m.vals.length x.m.vc) (j := 3) wt_len hR.rd hxi rfl rfl rfl)) ?_
    refine x_build (v := .agg (vmk false 505).cells.toArray) (by rfl) (by rfl) (fun _ => by kernel_rfl) ?_
    repeat (first | refine x_move (by rfl) ?_ | refine x_as (by rfl) (by rfl) ?_ | refine x_skip (by rfl) ?_ | refine x_fld (by rfl) (by rfl) FldO.h ?_)
    refine x_build (v := .agg (vmk false 506).cells.toArray) (by rfl) (by rfl) (fun _ => by kernel_rfl) ?_
    repeat (first | refine x_move (by rfl) ?_ | refine x_as (by rfl) (by rfl) ?_ | refine x_skip (by rfl) ?_ | refine x_fld (by rfl) (by rfl) FldO.h ?_)
    refine w_bslice (e := 70) (cs := (vmk false 505).cells ++ (vmk false 506).cells) (by rfl) (by rfl) (by rfl) (by kernel_rfl) ?_
    intro b3 wb3 _ ub3 hb3
    have hR3 := hR.at ub3
    refine w_append3 (more := []) (news := (vmk false 505).cells ++ (vmk false 506).cells) (by rfl) (by rfl) (by rfl) (by rfl) SlC.h (Wt.own_v (hR3.item hxm)) (by rw [List.append_nil]; exact hb3) (by rfl) (by rfl) (by omega) (roomS (by omega) (by omega)) ?_
    intro gv3 wg3 og3 os3 ug3 _
    repeat (first | refine x_move (by rfl) ?_ | refine x_as (by rfl) (by rfl) ?_ | refine x_skip (by rfl) ?_ | refine x_fld (by rfl) (by rfl) FldO.h ?_)
    refine x_nilw ?_
    replace hR := hR3.keep hxm (List.mem_of_getElem? (i := 2) rfl) ug3 (fun b e => e) os3
    replace u2 := (u2.ext ub3).trans (ug3.mono fun b e => ⟨x, hxm, _, List.mem_of_getElem? (i := 2) rfl, e⟩)
    have sg3 := og3.slice
    obtain ⟨ga3, gc3, rfl⟩ := sg3
    clear hR3 os3 og3 ub3 ug3 hb3
    refine swp_fit [(0, .slice (some ⟨pb, po, none⟩) xs.length c0), (3, was), (4, .int .i64 (n : Nat)), (5, .int .i64 (i : Nat)), (6, .slice ga1 (x.m.names.length + 2) gc1), (7, .slice ga2 (x.m.lens.length + 2) gc2), (8, .slice ga3 (x.m.vals.length + 2) gc3)] ⟨rfl, rfl, rfl, rfl, rfl, rfl, rfl, trivial⟩ fun ρ => ?_
    (repeat (first | refine swp_seq ?_ | refine swp_block ?_)); refine swp_region (by kernel_rfl) ?_
    repeat (first | refine x_move (by rfl) ?_ | refine x_as (by rfl) (by rfl) ?_ | refine x_skip (by rfl) ?_ | refine x_fld (by rfl) (by rfl) FldO.h ?_)
    refine x_idx i (by rfl) (by rfl) (by rfl) ElSz.h rfl hi' ?_
    repeat (first | refine x_move (by rfl) ?_ | refine x_as (by rfl) (by rfl) ?_ | refine x_skip (by rfl) ?_ | refine x_fld (by rfl) (by rfl) FldO.h ?_)
    refine w_load (by rfl) (by rfl) (load_one_cell OneT.h (rd_cell (v := .slice x.ba x.bs.length x.bc) (j := 4) wt_len hR.rd hxi rfl rfl rfl)) ?_
    refine x_build (v := .agg (emk 507 0 0).cells.toArray) (by rfl) (by rfl) (fun _ => by kernel_rfl) ?_
    repeat (first | refine x_move (by rfl) ?_ | refine x_as (by rfl) (by rfl) ?_ | refine x_skip (by rfl) ?_ | refine x_fld (by rfl) (by rfl) FldO.h ?_)
    refine w_bslice (e := 89) (cs := (emk 507 0 0).cells) (by rfl) (by rfl) (by rfl) (by kernel_rfl) ?_
    intro b0 wb0 _ ub0 hb0
    replace hR := hR.at ub0
    replace u2 := u2.ext ub0
    refine w_bslice (e := 86) (cs := [.slice (some ⟨b0, 0, none⟩) 1 1]) (by rfl) (by rfl) (by rfl) (by kernel_rfl) ?_
    intro b4 wb4 _ ub4 hb4
    have hR4 := hR.at ub4
    refine w_append3 (more := []) (news := [.slice (some ⟨b0, 0, none⟩) 1 1]) (by rfl) (by rfl) (by rfl) (by rfl) SlC.h (Wt.own_b (hR4.item hxm)) (by rw [List.append_nil]; exact hb4) (by rfl) (by rfl) (by omega) (roomS (by omega) (by omega)) ?_
    intro gv4 wg4 og4 os4 ug4 _
    repeat (first | refine x_move (by rfl) ?_ | refine x_as (by rfl) (by rfl) ?_ | refine x_skip (by rfl) ?_ | refine x_fld (by rfl) (by rfl) FldO.h ?_)
    refine x_nilw ?_
    replace hR := hR4.keep hxm (List.mem_of_getElem? (i := 3) rfl) ug4 (fun b e => e) os4
    replace u2 := (u2.ext ub4).trans (ug4.mono fun b e => ⟨x, hxm, _, List.mem_of_getElem? (i := 3) rfl, e⟩)
    have sg4 := og4.slice
    obtain ⟨ga4, gc4, rfl⟩ := sg4
    clear hR4 os4 og4 ub4 ug4 hb4
    (repeat (first | refine swp_seq ?_ | refine swp_block ?_)); refine swp_region (by kernel_rfl) ?_
    repeat (first | refine x_move (by rfl) ?_ | refine x_as (by rfl) (by rfl) ?_ | refine x_skip (by rfl) ?_ | refine x_fld (by rfl) (by rfl) FldO.h ?_ | refine x_nilck (by rfl) (by rfl) ?_ | refine x_len (by rfl) (by rfl) ElOf.some ?_ | refine x_ext (by rfl) (by rfl) (by rfl) ?_ | refine x_pickT (by rfl) (by rfl) (by rfl) ?_ | refine x_pickF (by rfl) (by rfl) (by rfl) ?_ | refine x_add (by rfl) (by rfl) (by rfl) (by omega) ?_ | refine x_sub (by rfl) (by rfl) (by rfl) (by omega) ?_ | refine x_not (by rfl) (by rfl) ?_)
    refine x_nilw ?_
    (repeat (first | refine swp_seq ?_ | refine swp_block ?_)); refine swp_region (by kernel_rfl) ?_
    repeat (first | refine x_move (by rfl) ?_ | refine x_as (by rfl) (by rfl) ?_ | refine x_skip (by rfl) ?_ | refine x_fld (by rfl) (by rfl) FldO.h ?_)
    refine x_nilw ?_
    refine swp_fit [(0, .slice (some ⟨pb, po, none⟩) xs.length c0), (3, was), (4, .int .i64 ((n + (x.m.names.length + 2) + (x.m.lens.length + 2) + (x.m.vals.length + 2) + (x.bs.length + 1) : Nat) : Int)), (5, .int .i64 (i : Nat)), (10, .int .i64 ((0 : Nat) : Int))] ⟨rfl, rfl, rfl, rfl, rfl, trivial⟩ fun ρ => ?_
    (repeat (first | refine swp_seq ?_ | refine swp_block ?_))
    refine swp_loop (fun (k : Nat) σ w' => ∃ n : Nat, At σ [(0, .slice (some ⟨pb, po, none⟩) xs.length c0), (3, was), (4, .int .i64 (n : Nat)), (5, .int .i64 (i : Nat)), (10, .int .i64 (k : Nat))] ∧ k ≤ x.bs.length ∧ n ≤ i * 1099517919239 + 4194311 + k * 1048578 ∧ Rw w' (.slice (some ⟨pb, po, none⟩) xs.length c0) xs ∧ Upd (feet xs) w1 w') (fun k => x.bs.length - k) 0 ⟨_, at_ ⟨rfl, rfl, rfl, rfl, rfl, trivial⟩, by omega, by omega, hR, u2⟩ ?_
    clear hR u2 hn
    rintro k σ w3 ⟨n, ⟨ρ, rfl⟩, hk, hn, hR, u2⟩
    (repeat (first | refine swp_seq ?_ | refine swp_block ?_)); refine swp_region (by kernel_rfl) ?_
    repeat (first | refine x_move (by rfl) ?_ | refine x_as (by rfl) (by rfl) ?_ | refine x_skip (by rfl) ?_ | refine x_fld (by rfl) (by rfl) FldO.h ?_)
    refine x_idx i (by rfl) (by rfl) (by rfl) ElSz.h rfl hi' ?_
    repeat (first | refine x_move (by rfl) ?_ | refine x_as (by rfl) (by rfl) ?_ | refine x_skip (by rfl) ?_ | refine x_fld (by rfl) (by rfl) FldO.h ?_)
    refine w_load (by rfl) (by rfl) (load_one_cell OneT.h (rd_cell (v := .slice x.ba x.bs.length x.bc) (j := 4) wt_len hR.rd hxi rfl rfl rfl)) ?_
    repeat (first | refine x_move (by rfl) ?_ | refine x_as (by rfl) (by rfl) ?_ | refine x_len (by rfl) (by rfl) ElOf.some ?_ | refine x_add (by rfl) (by rfl) (by rfl) (by omega) ?_ | refine x_lss (by rfl) (by rfl) (by rfl) ?_)
    refine x_nilw ?_
    (repeat (first | refine swp_seq ?_ | refine swp_block ?_))
    refine swp_if (by rfl) (fun hc2 => swp_skip ?_) (fun hc2 => ?_)
    · have hk' : k < x.bs.length := by omega
      have hee := nthE hk'
      obtain ⟨e, hek⟩ := hee
      have hem := List.mem_of_getElem? hek
      have Le := L.e e hem
      have rb := (Wt.own_b (hR.item hxm)).rd
      have pbv := rb.pos (by omega)
      obtain ⟨vb, vo, vc, hve, -, -⟩ := pbv
      rw [hve] at rb
      (repeat (first | with_reducible refine n_then ?_ | with_reducible refine n_block ?_ | with_reducible refine n_jump ?_))
      (repeat (first | refine swp_seq ?_ | refine swp_block ?_)); refine swp_region (by kernel_rfl) ?_
      repeat (first | refine x_move (by rfl) ?_ | refine x_as (by rfl) (by rfl) ?_ | refine x_skip (by rfl) ?_ | refine x_fld (by rfl) (by rfl) FldO.h ?_)
      refine x_idx i (by rfl) (by rfl) (by rfl) ElSz.h rfl hi' ?_
      repeat (first | refine x_move (by rfl) ?_ | refine x_as (by rfl) (by rfl) ?_ | refine x_skip (by rfl) ?_ | refine x_fld (by rfl) (by rfl) FldO.h ?_)
      refine w_load (by rfl) (by rfl) (load_one_cell OneT.h (rd_cell (v := .slice (some ⟨vb, vo, none⟩) x.bs.length vc) (j := 4) wt_len hR.rd hxi (by rw [← hve]; rfl) rfl rfl)) ?_
      repeat (first | refine x_move (by rfl) ?_ | refine x_as (by rfl) (by rfl) ?_ | refine x_skip (by rfl) ?_ | refine x_fld (by rfl) (by rfl) FldO.h ?_)
      refine x_idx k (by rfl) (by rfl) (by rfl) ElSz.h rfl hk' ?_
      refine w_load (by rfl) (by rfl) (load_one_cell OneT.h (rd_cell (v := .slice e.a e.evs.length e.c) (j := 0) el_len rb hek rfl rfl rfl)) ?_
      refine x_build (v := .agg (emk 508 0 0).cells.toArray) (by rfl) (by rfl) (fun _ => by kernel_rfl) ?_
      refine x_build (v := .agg (emk 509 0 0).cells.toArray) (by rfl) (by rfl) (fun _ => by kernel_rfl) ?_
      refine w_bslice (e := 89) (cs := (emk 508 0 0).cells ++ (emk 509 0 0).cells) (by rfl) (by rfl) (by rfl) (by kernel_rfl) ?_
      intro b5 w4 _ u4 h5
      have hR4 := hR.at u4
      refine w_append3 (more := []) (news := (emk 508 0 0).cells ++ (emk 509 0 0).cells) (by rfl) (by rfl) (by rfl) (by rfl) SlC.h (Wt.own_e (hR4.item hxm) hem) (by rw [List.append_nil]; exact h5) (by rfl) (by rfl) (by omega) (roomS (by omega) (by omega)) ?_
      intro gv5 w5 og5 os5 u5 _
      repeat (first | refine x_move (by rfl) ?_ | refine x_as (by rfl) (by rfl) ?_ | refine x_skip (by rfl) ?_ | refine x_fld (by rfl) (by rfl) FldO.h ?_)
      refine x_nilw ?_
      have hR5 := hR4.keepE hxm hem u5 (fun b e => e) os5
      have u25 := (u2.ext u4).trans (u5.mono fun b hb => (⟨x, hxm, _, List.mem_of_getElem? (i := 4) rfl, _, List.mem_map.2 ⟨e, hem, rfl⟩, hb⟩ : feet xs b))
      have sg5 := og5.slice
      obtain ⟨ga5, gc5, rfl⟩ := sg5
      (repeat (first | refine swp_seq ?_ | refine swp_block ?_)); refine swp_region (by kernel_rfl) ?_
      repeat (first | refine x_move (by rfl) ?_ | refine x_as (by rfl) (by rfl) ?_ | refine x_skip (by rfl) ?_ | refine x_fld (by rfl) (by rfl) FldO.h ?_ | refine x_nilck (by rfl) (by rfl) ?_ | refine x_len (by rfl) (by rfl) ElOf.some ?_ | refine x_ext (by rfl) (by rfl) (by rfl) ?_ | refine x_pickT (by rfl) (by rfl) (by rfl) ?_ | refine x_pickF (by rfl) (by rfl) (by rfl) ?_ | refine x_add (by rfl) (by rfl) (by rfl) (by omega) ?_ | refine x_sub (by rfl) (by rfl) (by rfl) (by omega) ?_ | refine x_not (by rfl) (by rfl) ?_)
      refine x_nilw ?_
      (repeat (first | with_reducible refine n_then ?_ | with_reducible refine n_block ?_ | with_reducible refine n_jump ?_))
      (repeat (first | refine swp_seq ?_ | refine swp_block ?_)); refine swp_region (by kernel_rfl) ?_
      repeat (first | refine x_move (by rfl) ?_ | refine x_as (by rfl) (by rfl) ?_ | refine x_len (by rfl) (by rfl) ElOf.some ?_ | refine x_add (by rfl) (by rfl) (by rfl) (by omega) ?_ | refine x_lss (by rfl) (by rfl) (by rfl) ?_)
      refine x_nilw ?_
      exact ⟨k + 1, ⟨n + (e.evs.length + 2), at_ ⟨rfl, rfl, rfl, rfl, rfl, trivial⟩, hk', by omega, hR5, u25⟩, by omega⟩
    · refine swp_exit ?_; (repeat (first | with_reducible refine e_then ?_ | with_reducible refine e_jump ?_)); refine e_block ?_; (repeat (first | with_reducible refine n_then ?_ | with_reducible refine n_block ?_ | with_reducible refine n_jump ?_))
      (repeat (first | refine swp_seq ?_ | refine swp_block ?_)); refine swp_region (by kernel_rfl) ?_
      repeat (first | refine x_move (by rfl) ?_ | refine x_as (by rfl) (by rfl) ?_ | refine x_len (by rfl) (by rfl) ElOf.some ?_ | refine x_add (by rfl) (by rfl) (by rfl) (by omega) ?_ | refine x_lss (by rfl) (by rfl) (by rfl) ?_)
      refine x_nilw ?_
      exact ⟨i + 1, ⟨n, at_ ⟨rfl, rfl, rfl, rfl, trivial⟩, hi', by omega, hR, u2⟩, by omega⟩
  · refine swp_exit ?_; (repeat (first | with_reducible refine e_then ?_ | with_reducible refine e_jump ?_)); refine e_block ?_; (repeat (first | with_reducible refine n_then ?_ | with_reducible refine n_block ?_ | with_reducible refine n_jump ?_))
    have hW2 := (hW.l.get u2 fun b hb _ hf => by have := hlt b hf; omega).own_rl
    (repeat (first | refine swp_seq ?_ | refine swp_block ?_)); refine swp_region (by kernel_rfl) ?_
    repeat (first | refine x_move (by rfl) ?_ | refine x_as (by rfl) (by rfl) ?_ | refine x_skip (by rfl) ?_ | refine x_fld (by rfl) (by rfl) FldO.h ?_)
    refine x_geqT (by rfl) (by rfl) (by rfl) (by omega) ?_
    repeat (first | refine x_move (by rfl) ?_ | refine x_as (by rfl) (by rfl) ?_ | refine x_skip (by rfl) ?_ | refine x_fld (by rfl) (by rfl) FldO.h ?_)
    refine w_call (by rfl) (by rfl) (by rfl) (same_all hR.rl hW2 hsay.symm (by omega)) ?_
    rintro _ w3 ⟨rfl, u3⟩
    repeat (first | refine x_move (by rfl) ?_ | refine x_as (by rfl) (by rfl) ?_ | refine x_skip (by rfl) ?_ | refine x_fld (by rfl) (by rfl) FldO.h ?_ | refine x_nilck (by rfl) (by rfl) ?_ | refine x_len (by rfl) (by rfl) ElOf.some ?_ | refine x_ext (by rfl) (by rfl) (by rfl) ?_ | refine x_pickT (by rfl) (by rfl) (by rfl) ?_ | refine x_pickF (by rfl) (by rfl) (by rfl) ?_ | refine x_add (by rfl) (by rfl) (by rfl) (by omega) ?_ | refine x_sub (by rfl) (by rfl) (by rfl) (by omega) ?_ | refine x_not (by rfl) (by rfl) ?_)
    refine x_nilw ?_
    refine swp_ret ?_; (repeat (first | with_reducible refine r_then ?_ | with_reducible refine r_block ?_ | with_reducible refine r_jump ?_))
    exact post1 rfl rfl ⟨_, rfl, rfl, hR.at u3, (u1.of _).trans (u2.ext u3)⟩
end Go.Proofs.Ytpnigekkbmanlaa
