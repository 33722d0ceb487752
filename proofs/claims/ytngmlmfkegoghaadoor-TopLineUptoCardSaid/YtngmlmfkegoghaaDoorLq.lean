/- The program's Line: its text is the one of the plain terms. Conditions: what is read; the line's length. -/
import Derived.Test.YtngmlmfkegoghaaDoorLp
namespace Go.Proofs.YtngmlmfkegoghaaDoor
open Sx
open Go.RowKit

set_option maxHeartbeats 4000000 in
set_option maxRecDepth 100000 in
theorem line12 (q : Qr) (m : Mt) (w : World) (hq : q.Rdy w) (hm : m.Rdy w) (hs : m.Sm) (hf : m.Fit) (hcn : m.names.length ≤ m.nc) (hcl : m.lens.length ≤ m.lc) (ht : Tab w) (hlim : (lineTxt q m).length ≤ 140737488355328) :
    Gets Tryd.prog 12 [q.v, m.v] w fun v w' => v = S (lineTxt q m) ∧ Ext w w' := by
  obtain ⟨T, hTd⟩ : ∃ T, T = lineTxt q m := ⟨_, rfl⟩
  rw [← hTd] at hlim ⊢
  have hsi := hq.si; have hsn := hs.n; have hsl := hs.l; have hsv := hs.v
  have hT0 : [109, 97, 116, 99, 104, 32] ++ Lib.itoa m.dec ++ (itTxt q.items m.names m.lens ++ tailTxt m) = T := hTd.symm
  refine ⟨GoFn.h, calls_of_swp 99 Tryd.func12 Tryd.ntmps12 rfl (Nat.le_of_ble_eq_true rfl) ?_⟩
  (repeat (first | refine swp_seq ?_ | refine swp_block ?_)); refine swp_region (by kernel_rfl) ?_
  refine w_boxA (by rfl) (by rfl) (by rfl) ?_; intro b2 w2 e2 u2 h2
  refine w_boxA (by rfl) (by rfl) (by rfl) ?_; intro b3 w3 e3 u3 h3
  replace h2 : Blk w3 b2 29 q.cells := h2.at u3
  replace h3 : Blk w3 b3 34 m.cells := h3
  have u03 := u2.trans u3
  repeat (first | refine x_move (by rfl) ?_ | refine x_as (by rfl) (by rfl) ?_ | refine x_skip (by rfl) ?_ | refine x_fld (by rfl) (by rfl) FldO.h ?_ | refine x_nilck (by rfl) (by rfl) ?_ | refine x_len (by rfl) (by rfl) ElOf.some ?_ | refine x_ext (by rfl) (by rfl) (by rfl) ?_ | refine x_pickT (by rfl) (by rfl) (by rfl) ?_ | refine x_pickF (by rfl) (by rfl) (by rfl) ?_ | refine x_add (by rfl) (by rfl) (by rfl) (by omega) ?_ | refine x_sub (by rfl) (by rfl) (by rfl) (by omega) ?_ | refine x_not (by rfl) (by rfl) ?_)
  refine x_nilw ?_
  (repeat (first | refine swp_seq ?_ | refine swp_block ?_)); refine swp_region (by kernel_rfl) ?_
  refine w_alloc (by rfl) (by rfl) ZeroT.h ?_; intro b5 w5 e5 u5 h5
  refine x_nilw ?_
  replace h5 : Blk w5 b5 67 [.pointer none, .slice none 0 0] := h5
  have B5 := bld_new h5
  have s5 := u5.size
  (repeat (first | refine swp_seq ?_ | refine swp_block ?_)); refine swp_region (by kernel_rfl) ?_
  refine w_call (by rfl) (by rfl) (by rfl) (write_string [109, 97, 116, 99, 104, 32] B5 (by simp) (by omega)) ?_
  rintro _ w6 ⟨B6, l6⟩
  replace B6 : Bld w6 b5 b5 [109, 97, 116, 99, 104, 32] := B6
  refine x_nilw ?_
  have x6 := l6.ext u5 e5
  (repeat (first | refine swp_seq ?_ | refine swp_block ?_)); refine swp_region (by kernel_rfl) ?_
  repeat (first | refine x_move (by rfl) ?_ | refine x_as (by rfl) (by rfl) ?_ | refine x_skip (by rfl) ?_ | refine x_fld (by rfl) (by rfl) FldO.h ?_ | refine x_nilck (by rfl) (by rfl) ?_ | refine x_len (by rfl) (by rfl) ElOf.some ?_ | refine x_ext (by rfl) (by rfl) (by rfl) ?_ | refine x_pickT (by rfl) (by rfl) (by rfl) ?_ | refine x_pickF (by rfl) (by rfl) (by rfl) ?_ | refine x_add (by rfl) (by rfl) (by rfl) (by omega) ?_ | refine x_sub (by rfl) (by rfl) (by rfl) (by omega) ?_ | refine x_not (by rfl) (by rfl) ?_)
  refine w_load (by rfl) (by rfl) (load_one (v := .int .i64 m.dec) OneT.h (h3.at x6) (by rfl)) ?_
  refine w_call (by rfl) (by rfl) (by rfl) (fmt_int m.dec hf.d.1 hf.d.2 w6 (ht.at (u03.trans x6))) ?_
  rintro _ w7 ⟨rfl, u7⟩
  have x7 := x6.trans u7
  refine w_call (by rfl) (by rfl) (by rfl) (write_string (Lib.itoa m.dec) (B6.at u7) (by have := congrArg List.length hT0; simp only [List.length_append, List.length_cons, List.length_nil] at this ⊢; omega) (by have := x7.size; omega)) ?_
  rintro _ w8 ⟨B8, l8⟩
  refine x_nilw ?_
  have x8 := l8.ext x7 e5
  have rI := hq.it.at u03
  have rN := (hm.at u03).1
  have rL := (hm.at u03).2.1
  have rV := (hm.at u03).2.2.1
  have htab := ht.at u03
  have PN : Pt Nm.cells w3 2 m.names 0 m.na m.nc := ⟨Nat.zero_le _, hcn, rN⟩
  have PL : Pt encN w3 1 m.lens 0 m.la m.lc := ⟨Nat.zero_le _, hcl, rL⟩
  (repeat (first | refine swp_seq ?_ | refine swp_block ?_))
  (repeat (first | refine swp_seq ?_ | refine swp_block ?_)); refine swp_draw (Ext w8) [] Mixed.h (by kernel_rfl) (by kernel_rfl) (ext_drew w8) ?_
  repeat (first | refine x_move (by rfl) ?_ | refine x_as (by rfl) (by rfl) ?_ | refine x_skip (by rfl) ?_ | refine x_fld (by rfl) (by rfl) FldO.h ?_ | refine x_nilck (by rfl) (by rfl) ?_ | refine x_len (by rfl) (by rfl) ElOf.some ?_ | refine x_ext (by rfl) (by rfl) (by rfl) ?_ | refine x_pickT (by rfl) (by rfl) (by rfl) ?_ | refine x_pickF (by rfl) (by rfl) (by rfl) ?_ | refine x_add (by rfl) (by rfl) (by rfl) (by omega) ?_ | refine x_sub (by rfl) (by rfl) (by rfl) (by omega) ?_ | refine x_not (by rfl) (by rfl) ?_)
  refine q_load (by rfl) (by rfl) (by rfl) (fun w' hw' => load_one (v := .slice m.na (m.names.length - 0) m.nc) OneT.h (h3.at (x8.trans hw')) (by rfl)) ?_
  repeat (first | refine x_move (by rfl) ?_ | refine x_as (by rfl) (by rfl) ?_ | refine x_skip (by rfl) ?_ | refine x_fld (by rfl) (by rfl) FldO.h ?_ | refine x_nilck (by rfl) (by rfl) ?_ | refine x_len (by rfl) (by rfl) ElOf.some ?_ | refine x_ext (by rfl) (by rfl) (by rfl) ?_ | refine x_pickT (by rfl) (by rfl) (by rfl) ?_ | refine x_pickF (by rfl) (by rfl) (by rfl) ?_ | refine x_add (by rfl) (by rfl) (by rfl) (by omega) ?_ | refine x_sub (by rfl) (by rfl) (by rfl) (by omega) ?_ | refine x_not (by rfl) (by rfl) ?_)
  refine q_load (by rfl) (by rfl) (by rfl) (fun w' hw' => load_one (v := .slice m.la (m.lens.length - 0) m.lc) OneT.h (h3.at (x8.trans hw')) (by rfl)) ?_
  repeat (first | refine x_move (by rfl) ?_ | refine x_as (by rfl) (by rfl) ?_ | refine x_skip (by rfl) ?_ | refine x_fld (by rfl) (by rfl) FldO.h ?_ | refine x_nilck (by rfl) (by rfl) ?_ | refine x_len (by rfl) (by rfl) ElOf.some ?_ | refine x_ext (by rfl) (by rfl) (by rfl) ?_ | refine x_pickT (by rfl) (by rfl) (by rfl) ?_ | refine x_pickF (by rfl) (by rfl) (by rfl) ?_ | refine x_add (by rfl) (by rfl) (by rfl) (by omega) ?_ | refine x_sub (by rfl) (by rfl) (by rfl) (by omega) ?_ | refine x_not (by rfl) (by rfl) ?_)
  refine x_nil fun w9 u9 => ?_
  have x9 := x8.trans u9
  have B9 := B8.at u9
  (repeat (first | refine swp_seq ?_ | refine swp_block ?_)); refine swp_region (by kernel_rfl) ?_
  repeat (first | refine x_move (by rfl) ?_ | refine x_as (by rfl) (by rfl) ?_ | refine x_skip (by rfl) ?_ | refine x_fld (by rfl) (by rfl) FldO.h ?_ | refine x_nilck (by rfl) (by rfl) ?_ | refine x_len (by rfl) (by rfl) ElOf.some ?_ | refine x_ext (by rfl) (by rfl) (by rfl) ?_ | refine x_pickT (by rfl) (by rfl) (by rfl) ?_ | refine x_pickF (by rfl) (by rfl) (by rfl) ?_ | refine x_add (by rfl) (by rfl) (by rfl) (by omega) ?_ | refine x_sub (by rfl) (by rfl) (by rfl) (by omega) ?_ | refine x_not (by rfl) (by rfl) ?_)
  refine w_load (by rfl) (by rfl) (load_one (v := .slice q.ia q.items.length q.ic) OneT.h (h2.at x9) (by rfl)) ?_
  repeat (first | refine x_move (by rfl) ?_ | refine x_as (by rfl) (by rfl) ?_ | refine x_skip (by rfl) ?_ | refine x_fld (by rfl) (by rfl) FldO.h ?_ | refine x_nilck (by rfl) (by rfl) ?_ | refine x_len (by rfl) (by rfl) ElOf.some ?_ | refine x_ext (by rfl) (by rfl) (by rfl) ?_ | refine x_pickT (by rfl) (by rfl) (by rfl) ?_ | refine x_pickF (by rfl) (by rfl) (by rfl) ?_ | refine x_add (by rfl) (by rfl) (by rfl) (by omega) ?_ | refine x_sub (by rfl) (by rfl) (by rfl) (by omega) ?_ | refine x_not (by rfl) (by rfl) ?_)
  refine x_nilw ?_
  refine swp_fit [(3, .pointer (some ⟨b3, 0, none⟩)), (5, .pointer (some ⟨b5, 0, none⟩)), (6, .slice m.na (m.names.length - 0) m.nc), (7, .slice m.la (m.lens.length - 0) m.lc), (25, .slice q.ia q.items.length q.ic), (26, .int .i64 (q.items.length : Nat)), (27, .int .i64 ((0 : Nat) : Int))] ⟨rfl, rfl, rfl, rfl, rfl, rfl, rfl, trivial⟩ fun ρ => ?_
  (repeat (first | refine swp_seq ?_ | refine swp_block ?_))
  refine swp_loop (fun (i : Nat) σ w' => ∃ s p c na nc la lc, At σ [(3, .pointer (some ⟨b3, 0, none⟩)), (5, .pointer (some ⟨b5, 0, none⟩)), (6, .slice na (m.names.length - p) nc), (7, .slice la (m.lens.length - c) lc), (25, .slice q.ia q.items.length q.ic), (26, .int .i64 (q.items.length : Nat)), (27, .int .i64 (i : Nat))] ∧ i ≤ q.items.length ∧ Pt Nm.cells w3 2 m.names p na nc ∧ Pt encN w3 1 m.lens c la lc ∧ s ++ (itTxt (q.items.drop i) (m.names.drop p) (m.lens.drop c) ++ tailTxt m) = T ∧ Bld w' b5 b5 s ∧ Ext w3 w') (fun i => q.items.length - i) 0 ⟨_, 0, 0, _, _, _, _, at_ ⟨rfl, rfl, rfl, rfl, rfl, rfl, rfl, trivial⟩, by omega, PN, PL, hT0, B9, x9⟩ ?_
  clear B5 B6 B8 B9 x6 x7 x8 x9 PN PL
  rintro i σ wa ⟨s, p, c, na, nc, la, lc, ⟨ρ, rfl⟩, hi, PN, PL, hT, Ba, xa⟩
  have sa := xa.size
  (repeat (first | refine swp_seq ?_ | refine swp_block ?_)); refine swp_region (by kernel_rfl) ?_
  repeat (first | refine x_move (by rfl) ?_ | refine x_as (by rfl) (by rfl) ?_ | refine x_skip (by rfl) ?_ | refine x_fld (by rfl) (by rfl) FldO.h ?_ | refine w_load (by rfl) (by rfl) (load_one OneT.h (by assumption) (by rfl)) ?_ | refine x_nilck (by rfl) (by rfl) ?_ | refine x_len (by rfl) (by rfl) ElOf.some ?_ | refine x_iface (by rfl) (by rfl) NIf.h ?_ | refine x_ext (by rfl) (by rfl) (by rfl) ?_ | refine x_pickT (by rfl) (by rfl) (by rfl) ?_ | refine x_pickF (by rfl) (by rfl) (by rfl) ?_ | refine x_add (by rfl) (by rfl) (by rfl) (by omega) ?_ | refine x_sub (by rfl) (by rfl) (by rfl) (by omega) ?_ | refine x_lss (by rfl) (by rfl) (by rfl) ?_ | refine x_geq (by rfl) (by rfl) (by rfl) ?_ | refine x_leq (by rfl) (by rfl) (by rfl) ?_ | refine x_gtr (by rfl) (by rfl) (by rfl) ?_ | refine x_eql (by rfl) (by rfl) (by rfl) ?_ | refine x_neq (by rfl) (by rfl) (by rfl) ?_ | refine x_not (by rfl) (by rfl) ?_)
  refine x_nilw ?_
  (repeat (first | refine swp_seq ?_ | refine swp_block ?_))
  refine swp_if (by rfl) (fun h0 => swp_skip ?_) (fun h0 => ?_)
  · have hi' : i < q.items.length := by omega
    obtain ⟨it, hit⟩ := nthE hi'
    obtain ⟨pa, oa, da, hea, -, -⟩ := rI.pos (by omega)
    simp only [Value.slice.injEq] at hea
    obtain ⟨ea, _, rfl⟩ := hea
    have ra := rI.at xa
    rw [ea] at ra ⊢
    rw [drop_of hit] at hT
    (repeat (first | with_reducible refine n_then ?_ | with_reducible refine n_block ?_ | with_reducible refine n_jump ?_))
    (repeat (first | refine swp_seq ?_ | refine swp_block ?_)); refine swp_region (by kernel_rfl) ?_
    repeat (first | refine x_move (by rfl) ?_ | refine x_as (by rfl) (by rfl) ?_ | refine x_skip (by rfl) ?_ | refine x_fld (by rfl) (by rfl) FldO.h ?_ | refine x_nilck (by rfl) (by rfl) ?_ | refine x_len (by rfl) (by rfl) ElOf.some ?_ | refine x_ext (by rfl) (by rfl) (by rfl) ?_ | refine x_pickT (by rfl) (by rfl) (by rfl) ?_ | refine x_pickF (by rfl) (by rfl) (by rfl) ?_ | refine x_add (by rfl) (by rfl) (by rfl) (by omega) ?_ | refine x_sub (by rfl) (by rfl) (by rfl) (by omega) ?_ | refine x_not (by rfl) (by rfl) ?_)
    refine x_idx i (by rfl) (by rfl) (by rfl) ElSz.h rfl hi' ?_
    refine w_load (by rfl) (by rfl) (rd_load it_len AggT.h ra hit rfl rfl) ?_
    refine w_alloc (by rfl) (by rfl) ZeroT.h ?_; intro b9 wb eb ub hb
    refine w_store (xs := it.cells) (by rfl) (by rfl) (by rfl) (by rfl) SzT.h (by rfl) (by rfl) hb (by simp) ?_
    intro wc uc hc _
    refine x_nilw ?_
    replace hc : Blk wc b9 55 it.cells := hc
    have uac : Ext wa wc := ub.trans' uc fun b hb e => by have e' : b = b9 := e; omega
    have xc := xa.trans uac
    have Bc := Ba.at uac
    have sc := xc.size
    (repeat (first | refine swp_seq ?_ | refine swp_block ?_)); refine swp_region (by kernel_rfl) ?_
    repeat (first | refine x_move (by rfl) ?_ | refine x_as (by rfl) (by rfl) ?_ | refine x_skip (by rfl) ?_ | refine x_fld (by rfl) (by rfl) FldO.h ?_ | refine x_nilck (by rfl) (by rfl) ?_ | refine x_len (by rfl) (by rfl) ElOf.some ?_ | refine x_ext (by rfl) (by rfl) (by rfl) ?_ | refine x_pickT (by rfl) (by rfl) (by rfl) ?_ | refine x_pickF (by rfl) (by rfl) (by rfl) ?_ | refine x_add (by rfl) (by rfl) (by rfl) (by omega) ?_ | refine x_sub (by rfl) (by rfl) (by rfl) (by omega) ?_ | refine x_not (by rfl) (by rfl) ?_)
    refine w_load (by rfl) (by rfl) (load_one (v := .bool it.neg) OneT.h hc (by rfl)) ?_
    refine x_nilw ?_
    refine swp_fit [(3, .pointer (some ⟨b3, 0, none⟩)), (5, .pointer (some ⟨b5, 0, none⟩)), (6, .slice na (m.names.length - p) nc), (7, .slice la (m.lens.length - c) lc), (9, .pointer (some ⟨b9, 0, none⟩)), (25, .slice (some ⟨pa, oa, none⟩) q.items.length q.ic), (26, .int .i64 (q.items.length : Nat)), (27, .int .i64 (i : Nat)), (32, .bool it.neg)] ⟨rfl, rfl, rfl, rfl, rfl, rfl, rfl, rfl, rfl, trivial⟩ fun ρ => ?_
    cases hng : it.neg with
    | true =>
      (repeat (first | refine swp_seq ?_ | refine swp_block ?_))
      refine swp_true (by rfl) ?_
      refine swp_exit ?_; (repeat (first | with_reducible refine e_then ?_ | with_reducible refine e_jump ?_)); refine e_block ?_; (repeat (first | with_reducible refine n_then ?_ | with_reducible refine n_block ?_ | with_reducible refine n_jump ?_))
      (repeat (first | refine swp_seq ?_ | refine swp_block ?_)); refine swp_region (by kernel_rfl) ?_
      repeat (first | refine x_move (by rfl) ?_ | refine x_as (by rfl) (by rfl) ?_ | refine x_skip (by rfl) ?_ | refine x_fld (by rfl) (by rfl) FldO.h ?_ | refine w_load (by rfl) (by rfl) (load_one OneT.h (by assumption) (by rfl)) ?_ | refine x_nilck (by rfl) (by rfl) ?_ | refine x_len (by rfl) (by rfl) ElOf.some ?_ | refine x_iface (by rfl) (by rfl) NIf.h ?_ | refine x_ext (by rfl) (by rfl) (by rfl) ?_ | refine x_pickT (by rfl) (by rfl) (by rfl) ?_ | refine x_pickF (by rfl) (by rfl) (by rfl) ?_ | refine x_add (by rfl) (by rfl) (by rfl) (by omega) ?_ | refine x_sub (by rfl) (by rfl) (by rfl) (by omega) ?_ | refine x_lss (by rfl) (by rfl) (by rfl) ?_ | refine x_geq (by rfl) (by rfl) (by rfl) ?_ | refine x_leq (by rfl) (by rfl) (by rfl) ?_ | refine x_gtr (by rfl) (by rfl) (by rfl) ?_ | refine x_eql (by rfl) (by rfl) (by rfl) ?_ | refine x_neq (by rfl) (by rfl) (by rfl) ?_ | refine x_not (by rfl) (by rfl) ?_)
      refine x_nilw ?_
      refine ⟨i + 1, ⟨s, p, c, na, nc, la, lc, at_ ⟨rfl, rfl, rfl, rfl, rfl, rfl, rfl, trivial⟩, hi', PN, PL, ?_, Bc, xc⟩, by omega⟩
      rw [← hT]
      simp only [itTxt, hng, if_true]
    | false =>
      (repeat (first | refine swp_seq ?_ | refine swp_block ?_))
      refine swp_false (by rfl) (swp_skip ?_)
      obtain ⟨N, hN⟩ : ∃ N, N = told (m.names.drop p) (m.lens.drop c) := ⟨_, rfl⟩
      have hNl : p + N ≤ m.names.length := by
        have := PN.le
        have : N ≤ (m.names.drop p).length := by rw [hN]; exact Nat.min_le_right _ _
        rw [List.length_drop] at this
        omega
      have hT1 : s ++ ([32] ++ it.var ++ [61] ++ (nmsTxt 0 ((m.names.drop p).take N) ++ (itTxt (q.items.drop (i + 1)) (m.names.drop (p + N)) (m.lens.drop (c + 1)) ++ tailTxt m))) = T := by
        rw [← hT]
        simp only [itTxt, hng, Bool.false_eq_true, if_false, ← hN, List.drop_drop, List.append_assoc]
      clear hT
      (repeat (first | refine swp_seq ?_ | refine swp_block ?_)); refine swp_region (by kernel_rfl) ?_
      repeat (first | refine x_move (by rfl) ?_ | refine x_as (by rfl) (by rfl) ?_ | refine x_skip (by rfl) ?_ | refine x_fld (by rfl) (by rfl) FldO.h ?_ | refine x_nilck (by rfl) (by rfl) ?_ | refine x_len (by rfl) (by rfl) ElOf.some ?_ | refine x_ext (by rfl) (by rfl) (by rfl) ?_ | refine x_pickT (by rfl) (by rfl) (by rfl) ?_ | refine x_pickF (by rfl) (by rfl) (by rfl) ?_ | refine x_add (by rfl) (by rfl) (by rfl) (by omega) ?_ | refine x_sub (by rfl) (by rfl) (by rfl) (by omega) ?_ | refine x_not (by rfl) (by rfl) ?_)
      refine w_load (by rfl) (by rfl) (load_one (v := S it.var) OneT.h hc (by rfl)) ?_
      refine x_addS (a := [32]) (by rfl) (by rfl) (by rfl) (by have := congrArg List.length hT1; simp only [List.length_append, List.length_cons, List.length_nil] at this ⊢; omega) ?_
      refine x_addS (b := [61]) (by rfl) (by rfl) (by rfl) (by have := congrArg List.length hT1; simp only [List.length_append, List.length_cons, List.length_nil] at this ⊢; omega) ?_
      refine w_call (by rfl) (by rfl) (by rfl) (write_string ([32] ++ it.var ++ [61]) Bc (by have := congrArg List.length hT1; simp only [List.length_append, List.length_cons, List.length_nil] at this ⊢; omega) (by omega)) ?_
      rintro _ wd ⟨Bd, ld⟩
      refine x_nilw ?_
      have xd := ld.ext xc e5
      (repeat (first | refine swp_seq ?_ | refine swp_block ?_)); refine swp_region (by kernel_rfl) ?_
      repeat (first | refine x_move (by rfl) ?_ | refine x_as (by rfl) (by rfl) ?_ | refine x_skip (by rfl) ?_ | refine x_fld (by rfl) (by rfl) FldO.h ?_ | refine x_nilck (by rfl) (by rfl) ?_ | refine x_len (by rfl) (by rfl) ElOf.some ?_ | refine x_ext (by rfl) (by rfl) (by rfl) ?_ | refine x_pickT (by rfl) (by rfl) (by rfl) ?_ | refine x_pickF (by rfl) (by rfl) (by rfl) ?_ | refine x_add (by rfl) (by rfl) (by rfl) (by omega) ?_ | refine x_sub (by rfl) (by rfl) (by rfl) (by omega) ?_ | refine x_not (by rfl) (by rfl) ?_)
      refine x_nilw ?_
      refine swp_fit [(3, .pointer (some ⟨b3, 0, none⟩)), (5, .pointer (some ⟨b5, 0, none⟩)), (6, .slice na (m.names.length - p) nc), (7, .slice la (m.lens.length - c) lc), (10, .int .i64 0), (25, .slice (some ⟨pa, oa, none⟩) q.items.length q.ic), (26, .int .i64 (q.items.length : Nat)), (27, .int .i64 (i : Nat))] ⟨rfl, rfl, rfl, rfl, rfl, rfl, rfl, rfl, trivial⟩ fun ρ => ?_
      refine swp_seq ?_
      refine swp_cutQ (fun σ w' => ∃ n la' lc' c', At σ [(3, .pointer (some ⟨b3, 0, none⟩)), (5, .pointer (some ⟨b5, 0, none⟩)), (6, .slice na (m.names.length - p) nc), (7, .slice la' (m.lens.length - c') lc'), (10, .int .i64 n), (25, .slice (some ⟨pa, oa, none⟩) q.items.length q.ic), (26, .int .i64 (q.items.length : Nat)), (27, .int .i64 (i : Nat))] ∧ Pt encN w3 1 m.lens c' la' lc' ∧ m.lens.drop c' = m.lens.drop (c + 1) ∧ 0 ≤ n ∧ (N : Int) = min n (m.names.length - p : Nat) ∧ Ext wd w') ?_ ?_
      · by_cases hcl' : c < m.lens.length
        · obtain ⟨n, hn⟩ := nthE hcl'
          have hn0 : (m.lens.drop c)[0]? = some n := by rw [List.getElem?_drop]; exact hn
          have rl := PL.rd.at xd
          obtain ⟨lb, lo, ld', hle, -, -⟩ := rl.pos (by omega)
          simp only [Value.slice.injEq] at hle
          obtain ⟨el, _, rfl⟩ := hle
          (repeat (first | refine swp_seq ?_ | refine swp_block ?_)); refine swp_region (by kernel_rfl) ?_
          repeat (first | refine x_move (by rfl) ?_ | refine x_as (by rfl) (by rfl) ?_ | refine x_skip (by rfl) ?_ | refine x_fld (by rfl) (by rfl) FldO.h ?_ | refine x_nilck (by rfl) (by rfl) ?_ | refine x_len (by rfl) (by rfl) ElOf.some ?_ | refine x_ext (by rfl) (by rfl) (by rfl) ?_ | refine x_pickT (by rfl) (by rfl) (by rfl) ?_ | refine x_pickF (by rfl) (by rfl) (by rfl) ?_ | refine x_add (by rfl) (by rfl) (by rfl) (by omega) ?_ | refine x_sub (by rfl) (by rfl) (by rfl) (by omega) ?_ | refine x_not (by rfl) (by rfl) ?_)
          refine x_gtrT (by rfl) (by rfl) (by rfl) (by omega) ?_
          refine x_nilw ?_
          (repeat (first | refine swp_seq ?_ | refine swp_block ?_))
          refine swp_true (by rfl) ?_
          (repeat (first | refine swp_seq ?_ | refine swp_block ?_)); refine swp_draw (Ext wd) [3] Mixed.h (by kernel_rfl) (by kernel_rfl) (ext_drew wd) ?_
          repeat (first | refine x_move (by rfl) ?_ | refine x_as (by rfl) (by rfl) ?_ | refine x_skip (by rfl) ?_ | refine x_fld (by rfl) (by rfl) FldO.h ?_ | refine x_nilck (by rfl) (by rfl) ?_ | refine x_len (by rfl) (by rfl) ElOf.some ?_ | refine x_ext (by rfl) (by rfl) (by rfl) ?_ | refine x_pickT (by rfl) (by rfl) (by rfl) ?_ | refine x_pickF (by rfl) (by rfl) (by rfl) ?_ | refine x_add (by rfl) (by rfl) (by rfl) (by omega) ?_ | refine x_sub (by rfl) (by rfl) (by rfl) (by omega) ?_ | refine x_not (by rfl) (by rfl) ?_)
          subst el
          refine x_idx 0 (by rfl) (by rfl) (by rfl) ElSz.h rfl (by omega) ?_
          refine q_load (by rfl) (by rfl) (by rfl) (fun w' hw' => load_one_cell OneT.h (rd_cell (v := .int .i64 n) (j := 0) encN_len (rl.at hw') hn0 rfl (by rw [List.length_drop]) rfl)) ?_
          refine x_fix (by rfl) (by rfl) (by rfl) fun we ue => ?_
          refine w_max (max n 0) (by rfl) (by rfl) (by rfl) (by rfl) (by split <;> omega) ?_
          repeat (first | refine x_move (by rfl) ?_ | refine x_as (by rfl) (by rfl) ?_ | refine x_skip (by rfl) ?_ | refine x_fld (by rfl) (by rfl) FldO.h ?_ | refine x_nilck (by rfl) (by rfl) ?_ | refine x_len (by rfl) (by rfl) ElOf.some ?_ | refine x_ext (by rfl) (by rfl) (by rfl) ?_ | refine x_pickT (by rfl) (by rfl) (by rfl) ?_ | refine x_pickF (by rfl) (by rfl) (by rfl) ?_ | refine x_add (by rfl) (by rfl) (by rfl) (by omega) ?_ | refine x_sub (by rfl) (by rfl) (by rfl) (by omega) ?_ | refine x_not (by rfl) (by rfl) ?_)
          refine x_cutFrom 1 (by rfl) (by rfl) (by rfl) ElSz.h (by rfl) (by omega) ?_
          repeat (first | refine x_move (by rfl) ?_ | refine x_as (by rfl) (by rfl) ?_ | refine x_skip (by rfl) ?_ | refine x_fld (by rfl) (by rfl) FldO.h ?_ | refine x_nilck (by rfl) (by rfl) ?_ | refine x_len (by rfl) (by rfl) ElOf.some ?_ | refine x_ext (by rfl) (by rfl) (by rfl) ?_ | refine x_pickT (by rfl) (by rfl) (by rfl) ?_ | refine x_pickF (by rfl) (by rfl) (by rfl) ?_ | refine x_add (by rfl) (by rfl) (by rfl) (by omega) ?_ | refine x_sub (by rfl) (by rfl) (by rfl) (by omega) ?_ | refine x_not (by rfl) (by rfl) ?_)
          refine x_nilw ?_
          refine ⟨rfl, max n 0, _, _, c + 1, at_ ⟨rfl, rfl, rfl, by rw [← Nat.sub_sub]; first | done | rfl, rfl, rfl, rfl, rfl, trivial⟩, PL.from encN_len (by omega), rfl, by omega, ?_, ue⟩
          rw [hN, told_at hn, List.length_drop]
          omega
        · (repeat (first | refine swp_seq ?_ | refine swp_block ?_)); refine swp_region (by kernel_rfl) ?_
          repeat (first | refine x_move (by rfl) ?_ | refine x_as (by rfl) (by rfl) ?_ | refine x_skip (by rfl) ?_ | refine x_fld (by rfl) (by rfl) FldO.h ?_ | refine x_nilck (by rfl) (by rfl) ?_ | refine x_len (by rfl) (by rfl) ElOf.some ?_ | refine x_ext (by rfl) (by rfl) (by rfl) ?_ | refine x_pickT (by rfl) (by rfl) (by rfl) ?_ | refine x_pickF (by rfl) (by rfl) (by rfl) ?_ | refine x_add (by rfl) (by rfl) (by rfl) (by omega) ?_ | refine x_sub (by rfl) (by rfl) (by rfl) (by omega) ?_ | refine x_not (by rfl) (by rfl) ?_)
          refine x_gtrF (by rfl) (by rfl) (by rfl) (by omega) ?_
          refine x_nilw ?_
          (repeat (first | refine swp_seq ?_ | refine swp_block ?_))
          refine swp_false (by rfl) (swp_skip ?_)
          (repeat (first | with_reducible refine n_then ?_ | with_reducible refine n_block ?_ | with_reducible refine n_jump ?_))
          refine ⟨rfl, 0, la, lc, c, at_ ⟨rfl, rfl, rfl, rfl, rfl, rfl, rfl, rfl, trivial⟩, PL, ?_, by omega, ?_, Upd.refl _ _⟩
          · rw [List.drop_of_length_le (by omega), List.drop_of_length_le (by omega)]
          · rw [hN, told_none (by omega)]
            omega
      rintro σ we ⟨n, la', lc', c', ⟨ρ, rfl⟩, PL', hdc, hn0, hNn, ude⟩
      refine n_then ?_
      rw [← hdc] at hT1
      clear hdc PL
      have Be := Bd.at ude
      have xe := xd.trans ude
      obtain ⟨rest, hrest⟩ : ∃ rest, rest = itTxt (q.items.drop (i + 1)) (m.names.drop (p + N)) (m.lens.drop c') ++ tailTxt m := ⟨_, rfl⟩
      rw [← hrest] at hT1
      have hNp : N ≤ m.names.length - p := by omega
      (repeat (first | refine swp_seq ?_ | refine swp_block ?_)); refine swp_region (by kernel_rfl) ?_
      repeat (first | refine x_move (by rfl) ?_ | refine x_as (by rfl) (by rfl) ?_ | refine x_skip (by rfl) ?_ | refine x_fld (by rfl) (by rfl) FldO.h ?_ | refine x_nilck (by rfl) (by rfl) ?_ | refine x_len (by rfl) (by rfl) ElOf.some ?_ | refine x_ext (by rfl) (by rfl) (by rfl) ?_ | refine x_pickT (by rfl) (by rfl) (by rfl) ?_ | refine x_pickF (by rfl) (by rfl) (by rfl) ?_ | refine x_add (by rfl) (by rfl) (by rfl) (by omega) ?_ | refine x_sub (by rfl) (by rfl) (by rfl) (by omega) ?_ | refine x_not (by rfl) (by rfl) ?_)
      refine w_min (N : Int) (by rfl) (by rfl) (by rfl) (by rfl) (by split <;> omega) ?_
      repeat (first | refine x_move (by rfl) ?_ | refine x_as (by rfl) (by rfl) ?_ | refine x_skip (by rfl) ?_ | refine x_fld (by rfl) (by rfl) FldO.h ?_ | refine x_nilck (by rfl) (by rfl) ?_ | refine x_len (by rfl) (by rfl) ElOf.some ?_ | refine x_ext (by rfl) (by rfl) (by rfl) ?_ | refine x_pickT (by rfl) (by rfl) (by rfl) ?_ | refine x_pickF (by rfl) (by rfl) (by rfl) ?_ | refine x_add (by rfl) (by rfl) (by rfl) (by omega) ?_ | refine x_sub (by rfl) (by rfl) (by rfl) (by omega) ?_ | refine x_not (by rfl) (by rfl) ?_)
      refine x_nilw ?_
      (repeat (first | refine swp_seq ?_ | refine swp_block ?_)); refine swp_region (by kernel_rfl) ?_
      repeat (first | refine x_move (by rfl) ?_ | refine x_as (by rfl) (by rfl) ?_ | refine x_skip (by rfl) ?_ | refine x_fld (by rfl) (by rfl) FldO.h ?_ | refine x_nilck (by rfl) (by rfl) ?_ | refine x_len (by rfl) (by rfl) ElOf.some ?_ | refine x_ext (by rfl) (by rfl) (by rfl) ?_ | refine x_pickT (by rfl) (by rfl) (by rfl) ?_ | refine x_pickF (by rfl) (by rfl) (by rfl) ?_ | refine x_add (by rfl) (by rfl) (by rfl) (by omega) ?_ | refine x_sub (by rfl) (by rfl) (by rfl) (by omega) ?_ | refine x_not (by rfl) (by rfl) ?_)
      refine x_cutTo0 N (by rfl) (by rfl) (by rfl) ElSz.h (by rfl) (by have := PN.cap; omega) ?_
      repeat (first | refine x_move (by rfl) ?_ | refine x_as (by rfl) (by rfl) ?_ | refine x_skip (by rfl) ?_ | refine x_fld (by rfl) (by rfl) FldO.h ?_ | refine x_nilck (by rfl) (by rfl) ?_ | refine x_len (by rfl) (by rfl) ElOf.some ?_ | refine x_ext (by rfl) (by rfl) (by rfl) ?_ | refine x_pickT (by rfl) (by rfl) (by rfl) ?_ | refine x_pickF (by rfl) (by rfl) (by rfl) ?_ | refine x_add (by rfl) (by rfl) (by rfl) (by omega) ?_ | refine x_sub (by rfl) (by rfl) (by rfl) (by omega) ?_ | refine x_not (by rfl) (by rfl) ?_)
      refine x_nilw ?_
      have rK := PN.rd.cutTo hNp
      rw [fl_take nm_len'] at rK
      refine swp_fit [(3, .pointer (some ⟨b3, 0, none⟩)), (5, .pointer (some ⟨b5, 0, none⟩)), (6, .slice na (m.names.length - p) nc), (7, .slice la' (m.lens.length - c') lc'), (10, .int .i64 (N : Nat)), (25, .slice (some ⟨pa, oa, none⟩) q.items.length q.ic), (26, .int .i64 (q.items.length : Nat)), (27, .int .i64 (i : Nat)), (53, .slice na N nc), (54, .int .i64 (N : Nat)), (55, .int .i64 ((0 : Nat) : Int))] ⟨rfl, rfl, rfl, rfl, rfl, rfl, rfl, rfl, rfl, rfl, rfl, trivial⟩ fun ρ => ?_
      (repeat (first | refine swp_seq ?_ | refine swp_block ?_))
      refine swp_loop (fun (k : Nat) σ w' => ∃ s', At σ [(3, .pointer (some ⟨b3, 0, none⟩)), (5, .pointer (some ⟨b5, 0, none⟩)), (6, .slice na (m.names.length - p) nc), (7, .slice la' (m.lens.length - c') lc'), (10, .int .i64 (N : Nat)), (25, .slice (some ⟨pa, oa, none⟩) q.items.length q.ic), (26, .int .i64 (q.items.length : Nat)), (27, .int .i64 (i : Nat)), (53, .slice na N nc), (54, .int .i64 (N : Nat)), (55, .int .i64 (k : Nat))] ∧ k ≤ N ∧ s' ++ (nmsTxt k (((m.names.drop p).take N).drop k) ++ rest) = T ∧ Bld w' b5 b5 s' ∧ Ext w3 w') (fun k => N - k) 0 ⟨_, at_ ⟨rfl, rfl, rfl, rfl, rfl, rfl, rfl, rfl, rfl, rfl, rfl, trivial⟩, by omega, by rw [← hT1]; simp only [List.append_assoc, List.drop_zero], Be, xe⟩ ?_
      clear hT1 Be Bd Bc Ba hc
      rintro k σ wf ⟨s', ⟨ρ, rfl⟩, hk, hT, Bf, xf⟩
      have sf := xf.size
      (repeat (first | refine swp_seq ?_ | refine swp_block ?_)); refine swp_region (by kernel_rfl) ?_
      repeat (first | refine x_move (by rfl) ?_ | refine x_as (by rfl) (by rfl) ?_ | refine x_skip (by rfl) ?_ | refine x_fld (by rfl) (by rfl) FldO.h ?_ | refine w_load (by rfl) (by rfl) (load_one OneT.h (by assumption) (by rfl)) ?_ | refine x_nilck (by rfl) (by rfl) ?_ | refine x_len (by rfl) (by rfl) ElOf.some ?_ | refine x_iface (by rfl) (by rfl) NIf.h ?_ | refine x_ext (by rfl) (by rfl) (by rfl) ?_ | refine x_pickT (by rfl) (by rfl) (by rfl) ?_ | refine x_pickF (by rfl) (by rfl) (by rfl) ?_ | refine x_add (by rfl) (by rfl) (by rfl) (by omega) ?_ | refine x_sub (by rfl) (by rfl) (by rfl) (by omega) ?_ | refine x_lss (by rfl) (by rfl) (by rfl) ?_ | refine x_geq (by rfl) (by rfl) (by rfl) ?_ | refine x_leq (by rfl) (by rfl) (by rfl) ?_ | refine x_gtr (by rfl) (by rfl) (by rfl) ?_ | refine x_eql (by rfl) (by rfl) (by rfl) ?_ | refine x_neq (by rfl) (by rfl) (by rfl) ?_ | refine x_not (by rfl) (by rfl) ?_)
      refine x_nilw ?_
      (repeat (first | refine swp_seq ?_ | refine swp_block ?_))
      refine swp_if (by rfl) (fun h1 => swp_skip ?_) (fun h1 => ?_)
      · have hkN : k < N := by omega
        have hx0 : ∃ x, ((m.names.drop p).take N)[k]? = some x := by
          refine ⟨m.names[p + k]'(by omega), ?_⟩
          rw [List.getElem?_take, if_pos hkN, List.getElem?_drop, List.getElem?_eq_getElem]
        obtain ⟨x, hx⟩ := hx0
        have hfx := hf.n x (List.mem_of_mem_drop (List.mem_of_mem_take (List.mem_of_getElem? hx)))
        rw [drop_of hx] at hT
        have rk := rK.at xf
        obtain ⟨nb, no', nd, hne, -, -⟩ := rk.pos (by omega)
        simp only [Value.slice.injEq] at hne
        obtain ⟨en, _, rfl⟩ := hne
        subst en
        (repeat (first | with_reducible refine n_then ?_ | with_reducible refine n_block ?_ | with_reducible refine n_jump ?_))
        (repeat (first | refine swp_seq ?_ | refine swp_block ?_)); refine swp_region (by kernel_rfl) ?_
        repeat (first | refine x_move (by rfl) ?_ | refine x_as (by rfl) (by rfl) ?_ | refine x_skip (by rfl) ?_ | refine x_fld (by rfl) (by rfl) FldO.h ?_ | refine x_nilck (by rfl) (by rfl) ?_ | refine x_len (by rfl) (by rfl) ElOf.some ?_ | refine x_ext (by rfl) (by rfl) (by rfl) ?_ | refine x_pickT (by rfl) (by rfl) (by rfl) ?_ | refine x_pickF (by rfl) (by rfl) (by rfl) ?_ | refine x_add (by rfl) (by rfl) (by rfl) (by omega) ?_ | refine x_sub (by rfl) (by rfl) (by rfl) (by omega) ?_ | refine x_not (by rfl) (by rfl) ?_)
        refine x_idx k (by rfl) (by rfl) (by rfl) ElSz.h rfl hkN ?_
        refine w_load (by rfl) (by rfl) (rd_load nm_len' AggT.h rk hx (by rw [List.length_take, List.length_drop]; omega) rfl) ?_
        refine w_alloc (by rfl) (by rfl) ZeroT.h ?_; intro b12 wg eg ug hg
        repeat (first | refine x_move (by rfl) ?_ | refine x_as (by rfl) (by rfl) ?_ | refine x_skip (by rfl) ?_ | refine x_fld (by rfl) (by rfl) FldO.h ?_ | refine x_nilck (by rfl) (by rfl) ?_ | refine x_len (by rfl) (by rfl) ElOf.some ?_ | refine x_ext (by rfl) (by rfl) (by rfl) ?_ | refine x_pickT (by rfl) (by rfl) (by rfl) ?_ | refine x_pickF (by rfl) (by rfl) (by rfl) ?_ | refine x_add (by rfl) (by rfl) (by rfl) (by omega) ?_ | refine x_sub (by rfl) (by rfl) (by rfl) (by omega) ?_ | refine x_not (by rfl) (by rfl) ?_)
        refine w_store (xs := x.cells) (by rfl) (by rfl) (by rfl) (by rfl) SzT.h (by rfl) (by rfl) hg (by simp) ?_
        intro wh uh hh _
        refine x_nilw ?_
        replace hh : Blk wh b12 58 x.cells := hh
        have ufh : Ext wf wh := ug.trans' uh fun b hb e => by have e' : b = b12 := e; omega
        have xh := xf.trans ufh
        have Bh := Bf.at ufh
        have sh := xh.size
        have hT2 : s' ++ (if 0 < k then [44] else []) ++ (nmTxt x ++ (nmsTxt (k + 1) (((m.names.drop p).take N).drop (k + 1)) ++ rest)) = T := by
          rw [← hT]
          simp only [nmsTxt, List.append_assoc]
        clear hT
        refine swp_fit [(3, .pointer (some ⟨b3, 0, none⟩)), (5, .pointer (some ⟨b5, 0, none⟩)), (6, .slice (some ⟨nb, no', none⟩) (m.names.length - p) nc), (7, .slice la' (m.lens.length - c') lc'), (10, .int .i64 (N : Nat)), (11, .int .i64 (k : Nat)), (12, .pointer (some ⟨b12, 0, none⟩)), (25, .slice (some ⟨pa, oa, none⟩) q.items.length q.ic), (26, .int .i64 (q.items.length : Nat)), (27, .int .i64 (i : Nat)), (53, .slice (some ⟨nb, no', none⟩) N nc), (54, .int .i64 (N : Nat)), (55, .int .i64 (k : Nat))] ⟨rfl, rfl, rfl, rfl, rfl, rfl, rfl, rfl, rfl, rfl, rfl, rfl, rfl, trivial⟩ fun ρ => ?_
        refine swp_seq ?_
        refine swp_cutQ (fun σ w' => At σ [(3, .pointer (some ⟨b3, 0, none⟩)), (5, .pointer (some ⟨b5, 0, none⟩)), (6, .slice (some ⟨nb, no', none⟩) (m.names.length - p) nc), (7, .slice la' (m.lens.length - c') lc'), (10, .int .i64 (N : Nat)), (12, .pointer (some ⟨b12, 0, none⟩)), (25, .slice (some ⟨pa, oa, none⟩) q.items.length q.ic), (26, .int .i64 (q.items.length : Nat)), (27, .int .i64 (i : Nat)), (53, .slice (some ⟨nb, no', none⟩) N nc), (54, .int .i64 (N : Nat)), (55, .int .i64 (k : Nat))] ∧ Bld w' b5 b5 (s' ++ if 0 < k then [44] else []) ∧ Blk w' b12 58 x.cells ∧ Ext w3 w') ?_ ?_
        · by_cases hk0 : 0 < k
          · rw [if_pos hk0] at hT2 ⊢
            (repeat (first | refine swp_seq ?_ | refine swp_block ?_)); refine swp_region (by kernel_rfl) ?_
            repeat (first | refine x_move (by rfl) ?_ | refine x_as (by rfl) (by rfl) ?_ | refine x_skip (by rfl) ?_ | refine x_fld (by rfl) (by rfl) FldO.h ?_ | refine x_nilck (by rfl) (by rfl) ?_ | refine x_len (by rfl) (by rfl) ElOf.some ?_ | refine x_ext (by rfl) (by rfl) (by rfl) ?_ | refine x_pickT (by rfl) (by rfl) (by rfl) ?_ | refine x_pickF (by rfl) (by rfl) (by rfl) ?_ | refine x_add (by rfl) (by rfl) (by rfl) (by omega) ?_ | refine x_sub (by rfl) (by rfl) (by rfl) (by omega) ?_ | refine x_not (by rfl) (by rfl) ?_)
            refine x_gtrT (by rfl) (by rfl) (by rfl) (by omega) ?_
            refine x_nilw ?_
            (repeat (first | refine swp_seq ?_ | refine swp_block ?_))
            refine swp_true (by rfl) ?_
            (repeat (first | refine swp_seq ?_ | refine swp_block ?_)); refine swp_region (by kernel_rfl) ?_
            refine w_call (by rfl) (by rfl) (by rfl) (write_byte 44 Bh (by have := congrArg List.length hT2; simp only [List.length_append, List.length_cons, List.length_nil] at this ⊢; omega) (by omega)) ?_
            rintro _ wi ⟨Bi, li⟩
            refine x_nilw ?_
            exact ⟨rfl, at_ ⟨rfl, rfl, rfl, rfl, rfl, rfl, rfl, rfl, rfl, rfl, rfl, rfl, trivial⟩, Bi, li.blk hh (by decide) (by have := bld_lt Bf; omega), li.ext xh e5⟩
          · rw [if_neg hk0, List.append_nil]
            (repeat (first | refine swp_seq ?_ | refine swp_block ?_)); refine swp_region (by kernel_rfl) ?_
            repeat (first | refine x_move (by rfl) ?_ | refine x_as (by rfl) (by rfl) ?_ | refine x_skip (by rfl) ?_ | refine x_fld (by rfl) (by rfl) FldO.h ?_ | refine x_nilck (by rfl) (by rfl) ?_ | refine x_len (by rfl) (by rfl) ElOf.some ?_ | refine x_ext (by rfl) (by rfl) (by rfl) ?_ | refine x_pickT (by rfl) (by rfl) (by rfl) ?_ | refine x_pickF (by rfl) (by rfl) (by rfl) ?_ | refine x_add (by rfl) (by rfl) (by rfl) (by omega) ?_ | refine x_sub (by rfl) (by rfl) (by rfl) (by omega) ?_ | refine x_not (by rfl) (by rfl) ?_)
            refine x_gtrF (by rfl) (by rfl) (by rfl) (by omega) ?_
            refine x_nilw ?_
            (repeat (first | refine swp_seq ?_ | refine swp_block ?_))
            refine swp_false (by rfl) (swp_skip ?_)
            (repeat (first | with_reducible refine n_then ?_ | with_reducible refine n_block ?_ | with_reducible refine n_jump ?_))
            exact ⟨rfl, at_ ⟨rfl, rfl, rfl, rfl, rfl, rfl, rfl, rfl, rfl, rfl, rfl, rfl, trivial⟩, Bh, hh, xh⟩
        rintro σ wi ⟨⟨ρ, rfl⟩, Bi, hi12, xi⟩
        refine n_then ?_
        have si := xi.size
        generalize (s' ++ if 0 < k then [44] else []) = s2 at hT2 Bi
        (repeat (first | refine swp_seq ?_ | refine swp_block ?_))
        (repeat (first | refine swp_seq ?_ | refine swp_block ?_)); refine swp_draw (Ext wi) [8] Mixed.h (by kernel_rfl) (by kernel_rfl) (ext_drew wi) ?_
        repeat (first | refine x_move (by rfl) ?_ | refine x_as (by rfl) (by rfl) ?_ | refine x_skip (by rfl) ?_ | refine x_fld (by rfl) (by rfl) FldO.h ?_ | refine x_nilck (by rfl) (by rfl) ?_ | refine x_len (by rfl) (by rfl) ElOf.some ?_ | refine x_ext (by rfl) (by rfl) (by rfl) ?_ | refine x_pickT (by rfl) (by rfl) (by rfl) ?_ | refine x_pickF (by rfl) (by rfl) (by rfl) ?_ | refine x_add (by rfl) (by rfl) (by rfl) (by omega) ?_ | refine x_sub (by rfl) (by rfl) (by rfl) (by omega) ?_ | refine x_not (by rfl) (by rfl) ?_)
        refine q_load (by rfl) (by rfl) (by rfl) (fun w' hw' => load_one (v := .int .i64 x.ts) OneT.h (hi12.at hw') (by rfl)) ?_
        refine q_call (v := S (Lib.itoa x.ts)) (by rfl) (by rfl) (by rfl) (fun w' hw' => (fmt_int x.ts hfx.1.1 hfx.1.2 w' ((htab.at xi).at hw')).mono fun v w'' h => ⟨h.1, hw'.trans h.2⟩) ?_
        refine x_addS (b := [47]) (by rfl) (by rfl) (by rfl) (by have := congrArg List.length hT2; simp only [nmTxt, List.length_append, List.length_cons, List.length_nil] at this ⊢; omega) ?_
        repeat (first | refine x_move (by rfl) ?_ | refine x_as (by rfl) (by rfl) ?_ | refine x_skip (by rfl) ?_ | refine x_fld (by rfl) (by rfl) FldO.h ?_ | refine x_nilck (by rfl) (by rfl) ?_ | refine x_len (by rfl) (by rfl) ElOf.some ?_ | refine x_ext (by rfl) (by rfl) (by rfl) ?_ | refine x_pickT (by rfl) (by rfl) (by rfl) ?_ | refine x_pickF (by rfl) (by rfl) (by rfl) ?_ | refine x_add (by rfl) (by rfl) (by rfl) (by omega) ?_ | refine x_sub (by rfl) (by rfl) (by rfl) (by omega) ?_ | refine x_not (by rfl) (by rfl) ?_)
        refine q_load (by rfl) (by rfl) (by rfl) (fun w' hw' => load_one (v := .int .u64 x.id) OneT.h (hi12.at hw') (by rfl)) ?_
        refine q_call (v := S (Lib.decDigits x.id.toNat)) (by rfl) (by rfl) (by rfl) (fun w' hw' => (fmt_uint x.id hfx.2.1 hfx.2.2 w' ((htab.at xi).at hw')).mono fun v w'' h => ⟨h.1, hw'.trans h.2⟩) ?_
        refine x_addS (by rfl) (by rfl) (by rfl) (by have := congrArg List.length hT2; simp only [nmTxt, List.length_append, List.length_cons, List.length_nil] at this ⊢; omega) ?_
        refine x_fix (by rfl) (by rfl) (by rfl) fun wj uj => ?_
        have xj := xi.trans uj
        refine w_call (by rfl) (by rfl) (by rfl) (write_string (nmTxt x) (Bi.at uj) (by have := congrArg List.length hT2; simp only [nmTxt, List.length_append, List.length_cons, List.length_nil] at this ⊢; omega) (by have := xj.size; omega)) ?_
        rintro _ wl ⟨Bl, ll⟩
        refine x_nilw ?_
        (repeat (first | with_reducible refine n_then ?_ | with_reducible refine n_block ?_ | with_reducible refine n_jump ?_))
        (repeat (first | refine swp_seq ?_ | refine swp_block ?_)); refine swp_region (by kernel_rfl) ?_
        repeat (first | refine x_move (by rfl) ?_ | refine x_as (by rfl) (by rfl) ?_ | refine x_skip (by rfl) ?_ | refine x_fld (by rfl) (by rfl) FldO.h ?_ | refine w_load (by rfl) (by rfl) (load_one OneT.h (by assumption) (by rfl)) ?_ | refine x_nilck (by rfl) (by rfl) ?_ | refine x_len (by rfl) (by rfl) ElOf.some ?_ | refine x_iface (by rfl) (by rfl) NIf.h ?_ | refine x_ext (by rfl) (by rfl) (by rfl) ?_ | refine x_pickT (by rfl) (by rfl) (by rfl) ?_ | refine x_pickF (by rfl) (by rfl) (by rfl) ?_ | refine x_add (by rfl) (by rfl) (by rfl) (by omega) ?_ | refine x_sub (by rfl) (by rfl) (by rfl) (by omega) ?_ | refine x_lss (by rfl) (by rfl) (by rfl) ?_ | refine x_geq (by rfl) (by rfl) (by rfl) ?_ | refine x_leq (by rfl) (by rfl) (by rfl) ?_ | refine x_gtr (by rfl) (by rfl) (by rfl) ?_ | refine x_eql (by rfl) (by rfl) (by rfl) ?_ | refine x_neq (by rfl) (by rfl) (by rfl) ?_ | refine x_not (by rfl) (by rfl) ?_)
        refine x_nilw ?_
        refine ⟨k + 1, ⟨_, at_ ⟨rfl, rfl, rfl, rfl, rfl, rfl, rfl, rfl, rfl, rfl, rfl, trivial⟩, hkN, ?_, Bl, ll.ext xj e5⟩, by omega⟩
        rw [← hT2]
        simp only [List.append_assoc]
      · have hkN' : k = N := by omega
        have hTe : s' ++ rest = T := by
          rw [← hT, hkN']
          rw [List.drop_of_length_le (by rw [List.length_take]; omega)]
          rfl
        clear hT
        refine swp_exit ?_; (repeat (first | with_reducible refine e_then ?_ | with_reducible refine e_jump ?_)); refine e_block ?_; (repeat (first | with_reducible refine n_then ?_ | with_reducible refine n_block ?_ | with_reducible refine n_jump ?_))
        (repeat (first | refine swp_seq ?_ | refine swp_block ?_)); refine swp_region (by kernel_rfl) ?_
        repeat (first | refine x_move (by rfl) ?_ | refine x_as (by rfl) (by rfl) ?_ | refine x_skip (by rfl) ?_ | refine x_fld (by rfl) (by rfl) FldO.h ?_ | refine x_nilck (by rfl) (by rfl) ?_ | refine x_len (by rfl) (by rfl) ElOf.some ?_ | refine x_ext (by rfl) (by rfl) (by rfl) ?_ | refine x_pickT (by rfl) (by rfl) (by rfl) ?_ | refine x_pickF (by rfl) (by rfl) (by rfl) ?_ | refine x_add (by rfl) (by rfl) (by rfl) (by omega) ?_ | refine x_sub (by rfl) (by rfl) (by rfl) (by omega) ?_ | refine x_not (by rfl) (by rfl) ?_)
        refine x_cutFrom N (by rfl) (by rfl) (by rfl) ElSz.h (by rfl) (by omega) ?_
        repeat (first | refine x_move (by rfl) ?_ | refine x_as (by rfl) (by rfl) ?_ | refine x_skip (by rfl) ?_ | refine x_fld (by rfl) (by rfl) FldO.h ?_ | refine x_nilck (by rfl) (by rfl) ?_ | refine x_len (by rfl) (by rfl) ElOf.some ?_ | refine x_ext (by rfl) (by rfl) (by rfl) ?_ | refine x_pickT (by rfl) (by rfl) (by rfl) ?_ | refine x_pickF (by rfl) (by rfl) (by rfl) ?_ | refine x_add (by rfl) (by rfl) (by rfl) (by omega) ?_ | refine x_sub (by rfl) (by rfl) (by rfl) (by omega) ?_ | refine x_not (by rfl) (by rfl) ?_)
        refine x_nilw ?_
        (repeat (first | with_reducible refine n_then ?_ | with_reducible refine n_block ?_ | with_reducible refine n_jump ?_))
        (repeat (first | refine swp_seq ?_ | refine swp_block ?_)); refine swp_region (by kernel_rfl) ?_
        repeat (first | refine x_move (by rfl) ?_ | refine x_as (by rfl) (by rfl) ?_ | refine x_skip (by rfl) ?_ | refine x_fld (by rfl) (by rfl) FldO.h ?_ | refine w_load (by rfl) (by rfl) (load_one OneT.h (by assumption) (by rfl)) ?_ | refine x_nilck (by rfl) (by rfl) ?_ | refine x_len (by rfl) (by rfl) ElOf.some ?_ | refine x_iface (by rfl) (by rfl) NIf.h ?_ | refine x_ext (by rfl) (by rfl) (by rfl) ?_ | refine x_pickT (by rfl) (by rfl) (by rfl) ?_ | refine x_pickF (by rfl) (by rfl) (by rfl) ?_ | refine x_add (by rfl) (by rfl) (by rfl) (by omega) ?_ | refine x_sub (by rfl) (by rfl) (by rfl) (by omega) ?_ | refine x_lss (by rfl) (by rfl) (by rfl) ?_ | refine x_geq (by rfl) (by rfl) (by rfl) ?_ | refine x_leq (by rfl) (by rfl) (by rfl) ?_ | refine x_gtr (by rfl) (by rfl) (by rfl) ?_ | refine x_eql (by rfl) (by rfl) (by rfl) ?_ | refine x_neq (by rfl) (by rfl) (by rfl) ?_ | refine x_not (by rfl) (by rfl) ?_)
        refine x_nilw ?_
        exact ⟨i + 1, ⟨s', p + N, c', _, _, la', lc', at_ ⟨rfl, rfl, by rw [← Nat.sub_sub]; first | done | rfl, rfl, rfl, rfl, rfl, trivial⟩, hi', PN.from nm_len' hNl, PL', by rw [← hTe, hrest], Bf, xf⟩, by omega⟩
  · have hin : i = q.items.length := by omega
    rw [hin, List.drop_length] at hT
    replace hT : s ++ tailTxt m = T := hT
    refine swp_exit ?_; (repeat (first | with_reducible refine e_then ?_ | with_reducible refine e_jump ?_)); refine e_block ?_; (repeat (first | with_reducible refine n_then ?_ | with_reducible refine n_block ?_ | with_reducible refine n_jump ?_))
    refine swp_fit [(3, .pointer (some ⟨b3, 0, none⟩)), (5, .pointer (some ⟨b5, 0, none⟩))] ⟨rfl, rfl, trivial⟩ fun ρ => ?_
    refine swp_seq ?_
    refine swp_cutQ (fun σ w' => ∃ s', At σ [(3, .pointer (some ⟨b3, 0, none⟩)), (5, .pointer (some ⟨b5, 0, none⟩))] ∧ s' ++ vlTxt m.vals = T ∧ Bld w' b5 b5 s' ∧ Ext w3 w') ?_ ?_
    · by_cases hv0 : 0 < m.vals.length
      · rw [tailTxt, if_pos hv0] at hT
        (repeat (first | refine swp_seq ?_ | refine swp_block ?_)); refine swp_region (by kernel_rfl) ?_
        repeat (first | refine x_move (by rfl) ?_ | refine x_as (by rfl) (by rfl) ?_ | refine x_skip (by rfl) ?_ | refine x_fld (by rfl) (by rfl) FldO.h ?_ | refine x_nilck (by rfl) (by rfl) ?_ | refine x_len (by rfl) (by rfl) ElOf.some ?_ | refine x_ext (by rfl) (by rfl) (by rfl) ?_ | refine x_pickT (by rfl) (by rfl) (by rfl) ?_ | refine x_pickF (by rfl) (by rfl) (by rfl) ?_ | refine x_add (by rfl) (by rfl) (by rfl) (by omega) ?_ | refine x_sub (by rfl) (by rfl) (by rfl) (by omega) ?_ | refine x_not (by rfl) (by rfl) ?_)
        refine w_load (by rfl) (by rfl) (load_one (v := .slice m.va m.vals.length m.vc) OneT.h (h3.at xa) (by rfl)) ?_
        repeat (first | refine x_move (by rfl) ?_ | refine x_as (by rfl) (by rfl) ?_ | refine x_skip (by rfl) ?_ | refine x_fld (by rfl) (by rfl) FldO.h ?_ | refine x_nilck (by rfl) (by rfl) ?_ | refine x_len (by rfl) (by rfl) ElOf.some ?_ | refine x_ext (by rfl) (by rfl) (by rfl) ?_ | refine x_pickT (by rfl) (by rfl) (by rfl) ?_ | refine x_pickF (by rfl) (by rfl) (by rfl) ?_ | refine x_add (by rfl) (by rfl) (by rfl) (by omega) ?_ | refine x_sub (by rfl) (by rfl) (by rfl) (by omega) ?_ | refine x_not (by rfl) (by rfl) ?_)
        refine x_gtrT (by rfl) (by rfl) (by rfl) (by omega) ?_
        refine x_nilw ?_
        (repeat (first | refine swp_seq ?_ | refine swp_block ?_))
        refine swp_true (by rfl) ?_
        (repeat (first | refine swp_seq ?_ | refine swp_block ?_)); refine swp_region (by kernel_rfl) ?_
        refine w_call (by rfl) (by rfl) (by rfl) (write_string [32, 45, 62] Ba (by have := congrArg List.length hT; simp only [List.length_append, List.length_cons, List.length_nil] at this ⊢; omega) (by omega)) ?_
        rintro _ wb ⟨Bb, lb⟩
        refine x_nilw ?_
        exact ⟨rfl, _, at_ ⟨rfl, rfl, trivial⟩, by rw [← hT, List.append_assoc], Bb, lb.ext xa e5⟩
      · rw [tailTxt, if_neg hv0, List.nil_append] at hT
        (repeat (first | refine swp_seq ?_ | refine swp_block ?_)); refine swp_region (by kernel_rfl) ?_
        repeat (first | refine x_move (by rfl) ?_ | refine x_as (by rfl) (by rfl) ?_ | refine x_skip (by rfl) ?_ | refine x_fld (by rfl) (by rfl) FldO.h ?_ | refine x_nilck (by rfl) (by rfl) ?_ | refine x_len (by rfl) (by rfl) ElOf.some ?_ | refine x_ext (by rfl) (by rfl) (by rfl) ?_ | refine x_pickT (by rfl) (by rfl) (by rfl) ?_ | refine x_pickF (by rfl) (by rfl) (by rfl) ?_ | refine x_add (by rfl) (by rfl) (by rfl) (by omega) ?_ | refine x_sub (by rfl) (by rfl) (by rfl) (by omega) ?_ | refine x_not (by rfl) (by rfl) ?_)
        refine w_load (by rfl) (by rfl) (load_one (v := .slice m.va m.vals.length m.vc) OneT.h (h3.at xa) (by rfl)) ?_
        repeat (first | refine x_move (by rfl) ?_ | refine x_as (by rfl) (by rfl) ?_ | refine x_skip (by rfl) ?_ | refine x_fld (by rfl) (by rfl) FldO.h ?_ | refine x_nilck (by rfl) (by rfl) ?_ | refine x_len (by rfl) (by rfl) ElOf.some ?_ | refine x_ext (by rfl) (by rfl) (by rfl) ?_ | refine x_pickT (by rfl) (by rfl) (by rfl) ?_ | refine x_pickF (by rfl) (by rfl) (by rfl) ?_ | refine x_add (by rfl) (by rfl) (by rfl) (by omega) ?_ | refine x_sub (by rfl) (by rfl) (by rfl) (by omega) ?_ | refine x_not (by rfl) (by rfl) ?_)
        refine x_gtrF (by rfl) (by rfl) (by rfl) (by omega) ?_
        refine x_nilw ?_
        (repeat (first | refine swp_seq ?_ | refine swp_block ?_))
        refine swp_false (by rfl) (swp_skip ?_)
        (repeat (first | with_reducible refine n_then ?_ | with_reducible refine n_block ?_ | with_reducible refine n_jump ?_))
        exact ⟨rfl, s, at_ ⟨rfl, rfl, trivial⟩, hT, Ba, xa⟩
    rintro σ wb ⟨s1, ⟨ρ, rfl⟩, hT1, Bb, xb⟩
    refine n_then ?_
    clear hT Ba xa
    (repeat (first | refine swp_seq ?_ | refine swp_block ?_)); refine swp_region (by kernel_rfl) ?_
    repeat (first | refine x_move (by rfl) ?_ | refine x_as (by rfl) (by rfl) ?_ | refine x_skip (by rfl) ?_ | refine x_fld (by rfl) (by rfl) FldO.h ?_ | refine x_nilck (by rfl) (by rfl) ?_ | refine x_len (by rfl) (by rfl) ElOf.some ?_ | refine x_ext (by rfl) (by rfl) (by rfl) ?_ | refine x_pickT (by rfl) (by rfl) (by rfl) ?_ | refine x_pickF (by rfl) (by rfl) (by rfl) ?_ | refine x_add (by rfl) (by rfl) (by rfl) (by omega) ?_ | refine x_sub (by rfl) (by rfl) (by rfl) (by omega) ?_ | refine x_not (by rfl) (by rfl) ?_)
    refine w_load (by rfl) (by rfl) (load_one (v := .slice m.va m.vals.length m.vc) OneT.h (h3.at xb) (by rfl)) ?_
    repeat (first | refine x_move (by rfl) ?_ | refine x_as (by rfl) (by rfl) ?_ | refine x_skip (by rfl) ?_ | refine x_fld (by rfl) (by rfl) FldO.h ?_ | refine x_nilck (by rfl) (by rfl) ?_ | refine x_len (by rfl) (by rfl) ElOf.some ?_ | refine x_ext (by rfl) (by rfl) (by rfl) ?_ | refine x_pickT (by rfl) (by rfl) (by rfl) ?_ | refine x_pickF (by rfl) (by rfl) (by rfl) ?_ | refine x_add (by rfl) (by rfl) (by rfl) (by omega) ?_ | refine x_sub (by rfl) (by rfl) (by rfl) (by omega) ?_ | refine x_not (by rfl) (by rfl) ?_)
    refine x_nilw ?_
    refine swp_fit [(5, .pointer (some ⟨b5, 0, none⟩)), (83, .slice m.va m.vals.length m.vc), (84, .int .i64 (m.vals.length : Nat)), (85, .int .i64 ((0 : Nat) : Int))] ⟨rfl, rfl, rfl, rfl, trivial⟩ fun ρ => ?_
    (repeat (first | refine swp_seq ?_ | refine swp_block ?_))
    refine swp_loop (fun (j : Nat) σ w' => ∃ s', At σ [(5, .pointer (some ⟨b5, 0, none⟩)), (83, .slice m.va m.vals.length m.vc), (84, .int .i64 (m.vals.length : Nat)), (85, .int .i64 (j : Nat))] ∧ j ≤ m.vals.length ∧ s' ++ vlTxt (m.vals.drop j) = T ∧ Bld w' b5 b5 s' ∧ Ext w3 w') (fun j => m.vals.length - j) 0 ⟨s1, at_ ⟨rfl, rfl, rfl, rfl, trivial⟩, by omega, hT1, Bb, xb⟩ ?_
    clear hT1 Bb xb
    rintro j σ wa ⟨s', ⟨ρ, rfl⟩, hj, hT, Ba, xa⟩
    have sa := xa.size
    (repeat (first | refine swp_seq ?_ | refine swp_block ?_)); refine swp_region (by kernel_rfl) ?_
    repeat (first | refine x_move (by rfl) ?_ | refine x_as (by rfl) (by rfl) ?_ | refine x_skip (by rfl) ?_ | refine x_fld (by rfl) (by rfl) FldO.h ?_ | refine w_load (by rfl) (by rfl) (load_one OneT.h (by assumption) (by rfl)) ?_ | refine x_nilck (by rfl) (by rfl) ?_ | refine x_len (by rfl) (by rfl) ElOf.some ?_ | refine x_iface (by rfl) (by rfl) NIf.h ?_ | refine x_ext (by rfl) (by rfl) (by rfl) ?_ | refine x_pickT (by rfl) (by rfl) (by rfl) ?_ | refine x_pickF (by rfl) (by rfl) (by rfl) ?_ | refine x_add (by rfl) (by rfl) (by rfl) (by omega) ?_ | refine x_sub (by rfl) (by rfl) (by rfl) (by omega) ?_ | refine x_lss (by rfl) (by rfl) (by rfl) ?_ | refine x_geq (by rfl) (by rfl) (by rfl) ?_ | refine x_leq (by rfl) (by rfl) (by rfl) ?_ | refine x_gtr (by rfl) (by rfl) (by rfl) ?_ | refine x_eql (by rfl) (by rfl) (by rfl) ?_ | refine x_neq (by rfl) (by rfl) (by rfl) ?_ | refine x_not (by rfl) (by rfl) ?_)
    refine x_nilw ?_
    (repeat (first | refine swp_seq ?_ | refine swp_block ?_))
    refine swp_if (by rfl) (fun hp => swp_skip ?_) (fun hp => ?_)
    · have hj' : j < m.vals.length := by omega
      obtain ⟨x, hx⟩ := nthE hj'
      have hfx := hf.v x (List.mem_of_getElem? hx)
      have rv := rV.at xa
      simp only [Mt.vs] at rv
      obtain ⟨va, vo, vd, hve, -, -⟩ := rv.pos (by omega)
      simp only [Value.slice.injEq] at hve
      obtain ⟨ev', _, rfl⟩ := hve
      rw [ev'] at rv ⊢
      rw [drop_of hx, vlTxt] at hT
      (repeat (first | with_reducible refine n_then ?_ | with_reducible refine n_block ?_ | with_reducible refine n_jump ?_))
      (repeat (first | refine swp_seq ?_ | refine swp_block ?_)); refine swp_region (by kernel_rfl) ?_
      repeat (first | refine x_move (by rfl) ?_ | refine x_as (by rfl) (by rfl) ?_ | refine x_skip (by rfl) ?_ | refine x_fld (by rfl) (by rfl) FldO.h ?_ | refine x_nilck (by rfl) (by rfl) ?_ | refine x_len (by rfl) (by rfl) ElOf.some ?_ | refine x_ext (by rfl) (by rfl) (by rfl) ?_ | refine x_pickT (by rfl) (by rfl) (by rfl) ?_ | refine x_pickF (by rfl) (by rfl) (by rfl) ?_ | refine x_add (by rfl) (by rfl) (by rfl) (by omega) ?_ | refine x_sub (by rfl) (by rfl) (by rfl) (by omega) ?_ | refine x_not (by rfl) (by rfl) ?_)
      refine x_idx j (by rfl) (by rfl) (by rfl) ElSz.h rfl hj' ?_
      refine w_load (by rfl) (by rfl) (rd_load vl_len AggT.h rv hx rfl rfl) ?_
      refine w_alloc (by rfl) (by rfl) ZeroT.h ?_; intro b14 wb eb ub hb
      refine w_store (xs := x.cells) (by rfl) (by rfl) (by rfl) (by rfl) SzT.h (by rfl) (by rfl) hb (by simp) ?_
      intro wc uc hc _
      refine x_nilw ?_
      replace hc : Blk wc b14 61 x.cells := hc
      have uac : Ext wa wc := ub.trans' uc fun b hb e => by have e' : b = b14 := e; omega
      have xc := xa.trans uac
      have Bc := Ba.at uac
      have sc := xc.size
      (repeat (first | refine swp_seq ?_ | refine swp_block ?_)); refine swp_region (by kernel_rfl) ?_
      repeat (first | refine x_move (by rfl) ?_ | refine x_as (by rfl) (by rfl) ?_ | refine x_skip (by rfl) ?_ | refine x_fld (by rfl) (by rfl) FldO.h ?_ | refine x_nilck (by rfl) (by rfl) ?_ | refine x_len (by rfl) (by rfl) ElOf.some ?_ | refine x_ext (by rfl) (by rfl) (by rfl) ?_ | refine x_pickT (by rfl) (by rfl) (by rfl) ?_ | refine x_pickF (by rfl) (by rfl) (by rfl) ?_ | refine x_add (by rfl) (by rfl) (by rfl) (by omega) ?_ | refine x_sub (by rfl) (by rfl) (by rfl) (by omega) ?_ | refine x_not (by rfl) (by rfl) ?_)
      refine w_load (by rfl) (by rfl) (load_one (v := .bool x.kn) OneT.h hc (by rfl)) ?_
      refine x_nilw ?_
      (repeat (first | refine swp_seq ?_ | refine swp_block ?_))
      cases hkn : x.kn with
      | true =>
        rw [if_pos hkn] at hT
        refine swp_true (by rfl) ?_
        (repeat (first | refine swp_seq ?_ | refine swp_block ?_)); refine swp_region (by kernel_rfl) ?_
        repeat (first | refine x_move (by rfl) ?_ | refine x_as (by rfl) (by rfl) ?_ | refine x_skip (by rfl) ?_ | refine x_fld (by rfl) (by rfl) FldO.h ?_ | refine x_nilck (by rfl) (by rfl) ?_ | refine x_len (by rfl) (by rfl) ElOf.some ?_ | refine x_ext (by rfl) (by rfl) (by rfl) ?_ | refine x_pickT (by rfl) (by rfl) (by rfl) ?_ | refine x_pickF (by rfl) (by rfl) (by rfl) ?_ | refine x_add (by rfl) (by rfl) (by rfl) (by omega) ?_ | refine x_sub (by rfl) (by rfl) (by rfl) (by omega) ?_ | refine x_not (by rfl) (by rfl) ?_)
        refine w_load (by rfl) (by rfl) (load_one (v := .int .i64 x.n) OneT.h hc (by rfl)) ?_
        refine w_call (by rfl) (by rfl) (by rfl) (fmt_int x.n hfx.1 hfx.2 wc (htab.at xc)) ?_
        rintro _ wd ⟨rfl, ud⟩
        have xd := xc.trans ud
        refine x_addS (a := [32]) (by rfl) (by rfl) (by rfl) (by have := congrArg List.length hT; simp only [List.length_append, List.length_cons, List.length_nil] at this ⊢; omega) ?_
        refine w_call (by rfl) (by rfl) (by rfl) (write_string ([32] ++ Lib.itoa x.n) (Bc.at ud) (by have := congrArg List.length hT; simp only [List.length_append, List.length_cons, List.length_nil] at this ⊢; omega) (by have := xd.size; omega)) ?_
        rintro _ we ⟨Be, le⟩
        refine x_nilw ?_
        (repeat (first | with_reducible refine n_then ?_ | with_reducible refine n_block ?_ | with_reducible refine n_jump ?_))
        (repeat (first | refine swp_seq ?_ | refine swp_block ?_)); refine swp_region (by kernel_rfl) ?_
        repeat (first | refine x_move (by rfl) ?_ | refine x_as (by rfl) (by rfl) ?_ | refine x_skip (by rfl) ?_ | refine x_fld (by rfl) (by rfl) FldO.h ?_ | refine w_load (by rfl) (by rfl) (load_one OneT.h (by assumption) (by rfl)) ?_ | refine x_nilck (by rfl) (by rfl) ?_ | refine x_len (by rfl) (by rfl) ElOf.some ?_ | refine x_iface (by rfl) (by rfl) NIf.h ?_ | refine x_ext (by rfl) (by rfl) (by rfl) ?_ | refine x_pickT (by rfl) (by rfl) (by rfl) ?_ | refine x_pickF (by rfl) (by rfl) (by rfl) ?_ | refine x_add (by rfl) (by rfl) (by rfl) (by omega) ?_ | refine x_sub (by rfl) (by rfl) (by rfl) (by omega) ?_ | refine x_lss (by rfl) (by rfl) (by rfl) ?_ | refine x_geq (by rfl) (by rfl) (by rfl) ?_ | refine x_leq (by rfl) (by rfl) (by rfl) ?_ | refine x_gtr (by rfl) (by rfl) (by rfl) ?_ | refine x_eql (by rfl) (by rfl) (by rfl) ?_ | refine x_neq (by rfl) (by rfl) (by rfl) ?_ | refine x_not (by rfl) (by rfl) ?_)
        refine x_nilw ?_
        exact ⟨j + 1, ⟨_, at_ ⟨rfl, rfl, rfl, rfl, trivial⟩, hj', by rw [← hT]; simp only [List.append_assoc], Be, le.ext xd e5⟩, by omega⟩
      | false =>
        rw [hkn, if_neg (by simp)] at hT
        refine swp_false (by rfl) ?_
        (repeat (first | refine swp_seq ?_ | refine swp_block ?_)); refine swp_region (by kernel_rfl) ?_
        refine w_call (by rfl) (by rfl) (by rfl) (write_string [32, 63] Bc (by have := congrArg List.length hT; simp only [List.length_append, List.length_cons, List.length_nil] at this ⊢; omega) (by omega)) ?_
        rintro _ we ⟨Be, le⟩
        refine x_nilw ?_
        (repeat (first | with_reducible refine n_then ?_ | with_reducible refine n_block ?_ | with_reducible refine n_jump ?_))
        (repeat (first | refine swp_seq ?_ | refine swp_block ?_)); refine swp_region (by kernel_rfl) ?_
        repeat (first | refine x_move (by rfl) ?_ | refine x_as (by rfl) (by rfl) ?_ | refine x_skip (by rfl) ?_ | refine x_fld (by rfl) (by rfl) FldO.h ?_ | refine w_load (by rfl) (by rfl) (load_one OneT.h (by assumption) (by rfl)) ?_ | refine x_nilck (by rfl) (by rfl) ?_ | refine x_len (by rfl) (by rfl) ElOf.some ?_ | refine x_iface (by rfl) (by rfl) NIf.h ?_ | refine x_ext (by rfl) (by rfl) (by rfl) ?_ | refine x_pickT (by rfl) (by rfl) (by rfl) ?_ | refine x_pickF (by rfl) (by rfl) (by rfl) ?_ | refine x_add (by rfl) (by rfl) (by rfl) (by omega) ?_ | refine x_sub (by rfl) (by rfl) (by rfl) (by omega) ?_ | refine x_lss (by rfl) (by rfl) (by rfl) ?_ | refine x_geq (by rfl) (by rfl) (by rfl) ?_ | refine x_leq (by rfl) (by rfl) (by rfl) ?_ | refine x_gtr (by rfl) (by rfl) (by rfl) ?_ | refine x_eql (by rfl) (by rfl) (by rfl) ?_ | refine x_neq (by rfl) (by rfl) (by rfl) ?_ | refine x_not (by rfl) (by rfl) ?_)
        refine x_nilw ?_
        exact ⟨j + 1, ⟨_, at_ ⟨rfl, rfl, rfl, rfl, trivial⟩, hj', by rw [← hT, List.append_assoc], Be, le.ext xc e5⟩, by omega⟩
    · have hjn : j = m.vals.length := by omega
      rw [hjn, List.drop_length] at hT
      replace hT : s' = T := by rw [← hT, vlTxt, List.append_nil]
      refine swp_exit ?_; (repeat (first | with_reducible refine e_then ?_ | with_reducible refine e_jump ?_)); refine e_block ?_; (repeat (first | with_reducible refine n_then ?_ | with_reducible refine n_block ?_ | with_reducible refine n_jump ?_))
      (repeat (first | refine swp_seq ?_ | refine swp_block ?_)); refine swp_region (by kernel_rfl) ?_
      refine w_call (by rfl) (by rfl) (by rfl) (bld_string Ba (by omega)) ?_
      rintro _ wb ⟨rfl, ub⟩
      repeat (first | refine x_move (by rfl) ?_ | refine x_as (by rfl) (by rfl) ?_ | refine x_skip (by rfl) ?_ | refine x_fld (by rfl) (by rfl) FldO.h ?_ | refine x_nilck (by rfl) (by rfl) ?_ | refine x_len (by rfl) (by rfl) ElOf.some ?_ | refine x_ext (by rfl) (by rfl) (by rfl) ?_ | refine x_pickT (by rfl) (by rfl) (by rfl) ?_ | refine x_pickF (by rfl) (by rfl) (by rfl) ?_ | refine x_add (by rfl) (by rfl) (by rfl) (by omega) ?_ | refine x_sub (by rfl) (by rfl) (by rfl) (by omega) ?_ | refine x_not (by rfl) (by rfl) ?_)
      refine x_nilw ?_
      refine swp_ret ?_; (repeat (first | with_reducible refine r_then ?_ | with_reducible refine r_block ?_ | with_reducible refine r_jump ?_))
      exact post1 rfl rfl ⟨_, rfl, congrArg S hT, u03.trans (ext_below (xa.below.trans (by rw [e5] at ub; exact ub)))⟩
end Go.Proofs.YtngmlmfkegoghaaDoor
