/- DueOwn's walk: it answers true. Conditions: few things. -/
import Derived.Test.YtpnigekkbmanlaaKj
namespace Go.Proofs.Ytpnigekkbmanlaa
open Sx Hp

set_option maxHeartbeats 16000000 in
set_option maxRecDepth 100000 in
theorem walk11 {w : World} {lv : Value} {ls : List Wt} (mk : Int) (h : RL w lv ls) (hx : ∀ x ∈ ls, x.Lo) (hl : ls.length ≤ 524288) :
    Gets Try.prog 11 [lv, .int .i64 mk] w fun v w' => v = .bool true ∧ Ext w w' := by
  have hsl := h.rd.slice
  obtain ⟨a0, c0, rfl⟩ := hsl
  have hlb : ls.length * 104 ≤ 140737488351232 := by omega
  refine ⟨GoFn.h, calls_of_swp 201 Try.func11 Try.ntmps11 rfl (Nat.le_of_ble_eq_true rfl) ?_⟩
  (repeat (first | refine swp_seq ?_ | refine swp_block ?_)); refine swp_region (by kernel_rfl) ?_
  repeat (first | refine x_move (by rfl) ?_ | refine x_as (by rfl) (by rfl) ?_ | refine x_skip (by rfl) ?_ | refine x_fld (by rfl) (by rfl) FldO.h ?_)
  refine x_nilw ?_
  (repeat (first | refine swp_seq ?_ | refine swp_block ?_)); refine swp_region (by kernel_rfl) ?_
  repeat (first | refine x_move (by rfl) ?_ | refine x_as (by rfl) (by rfl) ?_ | refine x_skip (by rfl) ?_ | refine x_fld (by rfl) (by rfl) FldO.h ?_)
  refine w_call (by rfl) (by rfl) (by rfl) (copiedO h hlb) ?_
  rintro v1 w1 ⟨c1, hW1, hs1, u1⟩
  have l1 := len_says hs1
  refine w_call (by rfl) (by rfl) (by rfl) (filled hW1.l.own_rl (by omega)) ?_
  rintro _ w2 ⟨bw, Gw, Sw, Nw, vin1, rfl, -, F1⟩
  repeat (first | refine x_move (by rfl) ?_ | refine x_as (by rfl) (by rfl) ?_ | refine x_skip (by rfl) ?_ | refine x_fld (by rfl) (by rfl) FldO.h ?_ | refine x_nilck (by rfl) (by rfl) ?_ | refine x_len (by rfl) (by rfl) ElOf.some ?_ | refine x_ext (by rfl) (by rfl) (by rfl) ?_ | refine x_pickT (by rfl) (by rfl) (by rfl) ?_ | refine x_pickF (by rfl) (by rfl) (by rfl) ?_ | refine x_add (by rfl) (by rfl) (by rfl) (by omega) ?_ | refine x_sub (by rfl) (by rfl) (by rfl) (by omega) ?_ | refine x_not (by rfl) (by rfl) ?_)
  refine x_nilw ?_
  have R1 : Rg w w1 [aW v1 c1] := (Rg.nil (Upd.refl _ w)).list hW1 u1
  have R2 : Rg w w2 [aDv bw Gw Sw Nw] := (R1.new (a := aDv bw Gw Sw Nw) F1.ext ⟨F1.dv, fun b hb => (F1.gb b hb).2⟩ fun b hb => (F1.gb b hb).1).erase 1 rfl
  have hwSw := F1.wts
  clear R1 hW1 F1 u1
  refine swp_fit [(0, .slice a0 ls.length c0), (1, .int .i64 mk), (5, .pointer (some ⟨bw, 0, none⟩)), (7, .bool true)] ⟨rfl, rfl, rfl, rfl, trivial⟩ fun ρ => ?_
  (repeat (first | refine swp_seq ?_ | refine swp_block ?_)); refine swp_region (by kernel_rfl) ?_
  repeat (first | refine x_move (by rfl) ?_ | refine x_as (by rfl) (by rfl) ?_ | refine x_skip (by rfl) ?_ | refine x_fld (by rfl) (by rfl) FldO.h ?_)
  refine w_call (by rfl) (by rfl) (by rfl) (copiedO (h.at R2.u) hlb) ?_
  rintro v2 w3 ⟨c2, hW2, hs2, u3⟩
  repeat (first | refine x_move (by rfl) ?_ | refine x_as (by rfl) (by rfl) ?_ | refine x_skip (by rfl) ?_ | refine x_fld (by rfl) (by rfl) FldO.h ?_)
  refine x_nilw ?_
  have l2 := len_says hs2
  have R3 : Rg w w3 [aW v2 c2, aDv bw Gw Sw Nw] := R2.list hW2 u3
  clear R2 u3 hW2
  (repeat (first | refine swp_seq ?_ | refine swp_block ?_)); refine swp_region (by kernel_rfl) ?_
  repeat (first | refine x_move (by rfl) ?_ | refine x_as (by rfl) (by rfl) ?_ | refine x_skip (by rfl) ?_ | refine x_fld (by rfl) (by rfl) FldO.h ?_)
  refine w_call (by rfl) (by rfl) (by rfl) (filled (show Rw w3 v2 c2 from (show (aW v2 c2).P w3 from R3.nth (i := 0) rfl).2).rl (by omega)) ?_
  rintro _ w4 ⟨bd, Gd, Sd, Nd, vin2, rfl, -, F2⟩
  repeat (first | refine x_move (by rfl) ?_ | refine x_as (by rfl) (by rfl) ?_ | refine x_skip (by rfl) ?_ | refine x_fld (by rfl) (by rfl) FldO.h ?_ | refine x_nilck (by rfl) (by rfl) ?_ | refine x_len (by rfl) (by rfl) ElOf.some ?_ | refine x_ext (by rfl) (by rfl) (by rfl) ?_ | refine x_pickT (by rfl) (by rfl) (by rfl) ?_ | refine x_pickF (by rfl) (by rfl) (by rfl) ?_ | refine x_add (by rfl) (by rfl) (by rfl) (by omega) ?_ | refine x_sub (by rfl) (by rfl) (by rfl) (by omega) ?_ | refine x_not (by rfl) (by rfl) ?_)
  refine x_nilw ?_
  have R4 : Rg w w4 [aDv bd Gd Sd Nd, aW v2 c2, aDv bw Gw Sw Nw] := R3.new (a := aDv bd Gd Sd Nd) F2.ext ⟨F2.dv, fun b hb => (F2.gb b hb).2⟩ fun b hb => (F2.gb b hb).1
  have hwSd := F2.wts
  clear R3 F2
  -- what both hold says the same
  have hSS : Sd.map Wt.says = Sw.map Wt.says := by
    rw [hwSd, hwSw, fold_says (hs2.trans hs1.symm) rfl]
  have loC1 := los_says hs1 hx
  have loC2 := los_says hs2 hx
  have loD : ∀ y ∈ Sd, y.Lo := wts_lo hwSd (fold_lo loC2)
  have loW : ∀ y ∈ Sw, y.Lo := wts_lo hwSw (fold_lo loC1)
  have lD : Sd.length ≤ 524288 := by
    have q1 := hwSd.len
    have q2 := foldl_len c2 []
    simp only [List.length_nil] at q2
    omega
  have lW : Sw.length ≤ 524288 := by
    have := len_says hSS
    omega
  clear hwSd hwSw hs1 loC1 l1
  refine swp_fit [(1, .int .i64 mk), (5, .pointer (some ⟨bw, 0, none⟩)), (7, .bool true), (8, v2), (9, .pointer (some ⟨bd, 0, none⟩)), (11, .bool true)] ⟨rfl, rfl, rfl, rfl, rfl, rfl, trivial⟩ fun ρ => ?_
  (repeat (first | refine swp_seq ?_ | refine swp_block ?_)); refine swp_region (by kernel_rfl) ?_
  repeat (first | refine x_move (by rfl) ?_ | refine x_as (by rfl) (by rfl) ?_ | refine x_skip (by rfl) ?_ | refine x_fld (by rfl) (by rfl) FldO.h ?_ | refine x_nilck (by rfl) (by rfl) ?_ | refine x_len (by rfl) (by rfl) ElOf.some ?_ | refine x_ext (by rfl) (by rfl) (by rfl) ?_ | refine x_pickT (by rfl) (by rfl) (by rfl) ?_ | refine x_pickF (by rfl) (by rfl) (by rfl) ?_ | refine x_add (by rfl) (by rfl) (by rfl) (by omega) ?_ | refine x_sub (by rfl) (by rfl) (by rfl) (by omega) ?_ | refine x_not (by rfl) (by rfl) ?_)
  refine x_nilw ?_
  (repeat (first | refine swp_seq ?_ | refine swp_block ?_))
  refine swp_false (by rfl) (swp_skip ?_)
  (repeat (first | with_reducible refine n_then ?_ | with_reducible refine n_block ?_ | with_reducible refine n_jump ?_))
  -- what was handed in is spoilt
  (repeat (first | refine swp_seq ?_ | refine swp_block ?_)); refine swp_region (by kernel_rfl) ?_
  repeat (first | refine x_move (by rfl) ?_ | refine x_as (by rfl) (by rfl) ?_ | refine x_skip (by rfl) ?_ | refine x_fld (by rfl) (by rfl) FldO.h ?_)
  refine w_call (by rfl) (by rfl) (by rfl) (spoil_ 1 (show (aW v2 c2).P w4 from R4.nth (i := 1) rfl).2 loC2 (by omega) (by omega)) ?_
  rintro _ w5 ⟨u5, -⟩
  refine x_nilw ?_
  have R5 : Rg w w5 [aDv bd Gd Sd Nd, aDv bw Gw Sw Nw] := (show Rg w w4 (aW v2 c2 :: [aDv bd Gd Sd Nd, aDv bw Gw Sw Nw]) from R4.pull 1 rfl).waste u5
  clear R4 u5
  (repeat (first | refine swp_seq ?_ | refine swp_block ?_)); refine swp_region (by kernel_rfl) ?_
  repeat (first | refine x_move (by rfl) ?_ | refine x_as (by rfl) (by rfl) ?_ | refine x_skip (by rfl) ?_ | refine x_fld (by rfl) (by rfl) FldO.h ?_)
  refine w_call (by rfl) (by rfl) (by rfl) (due_listO (show (aDv bd Gd Sd Nd).P w5 from R5.nth (i := 0) rfl).1 (roomS (by omega) (by omega)) (by omega)) ?_
  rintro vf w6 ⟨xf, hWf, hsf, u6⟩
  repeat (first | refine x_move (by rfl) ?_ | refine x_as (by rfl) (by rfl) ?_ | refine x_skip (by rfl) ?_ | refine x_fld (by rfl) (by rfl) FldO.h ?_ | refine x_nilck (by rfl) (by rfl) ?_ | refine x_len (by rfl) (by rfl) ElOf.some ?_ | refine x_ext (by rfl) (by rfl) (by rfl) ?_ | refine x_pickT (by rfl) (by rfl) (by rfl) ?_ | refine x_pickF (by rfl) (by rfl) (by rfl) ?_ | refine x_add (by rfl) (by rfl) (by rfl) (by omega) ?_ | refine x_sub (by rfl) (by rfl) (by rfl) (by omega) ?_ | refine x_not (by rfl) (by rfl) ?_)
  refine x_nilw ?_
  have R6 : Rg w w6 [aW vf xf, aDv bd Gd Sd Nd, aDv bw Gw Sw Nw] := R5.list hWf u6
  clear R5 hWf u6
  (repeat (first | refine swp_seq ?_ | refine swp_block ?_)); refine swp_region (by kernel_rfl) ?_
  repeat (first | refine x_move (by rfl) ?_ | refine x_as (by rfl) (by rfl) ?_ | refine x_skip (by rfl) ?_ | refine x_fld (by rfl) (by rfl) FldO.h ?_ | refine x_nilck (by rfl) (by rfl) ?_ | refine x_len (by rfl) (by rfl) ElOf.some ?_ | refine x_ext (by rfl) (by rfl) (by rfl) ?_ | refine x_pickT (by rfl) (by rfl) (by rfl) ?_ | refine x_pickF (by rfl) (by rfl) (by rfl) ?_ | refine x_add (by rfl) (by rfl) (by rfl) (by omega) ?_ | refine x_sub (by rfl) (by rfl) (by rfl) (by omega) ?_ | refine x_not (by rfl) (by rfl) ?_)
  refine w_call (by rfl) (by rfl) (by rfl) (due_listO (show (aDv bd Gd Sd Nd).P w6 from R6.nth (i := 1) rfl).1 (roomS (by omega) (by omega)) (by omega)) ?_
  rintro vm w7 ⟨xm, hWm, hsm, u7⟩
  repeat (first | refine x_move (by rfl) ?_ | refine x_as (by rfl) (by rfl) ?_ | refine x_skip (by rfl) ?_ | refine x_fld (by rfl) (by rfl) FldO.h ?_ | refine x_nilck (by rfl) (by rfl) ?_ | refine x_len (by rfl) (by rfl) ElOf.some ?_ | refine x_ext (by rfl) (by rfl) (by rfl) ?_ | refine x_pickT (by rfl) (by rfl) (by rfl) ?_ | refine x_pickF (by rfl) (by rfl) (by rfl) ?_ | refine x_add (by rfl) (by rfl) (by rfl) (by omega) ?_ | refine x_sub (by rfl) (by rfl) (by rfl) (by omega) ?_ | refine x_not (by rfl) (by rfl) ?_)
  refine x_nilw ?_
  have R7 : Rg w w7 [aW vm xm, aW vf xf, aDv bd Gd Sd Nd, aDv bw Gw Sw Nw] := R6.list hWm u7
  clear R6 hWm u7
  have loF := los_says hsf loD
  have loM := los_says hsm loD
  have lF := len_says hsf
  have lM := len_says hsm
  (repeat (first | refine swp_seq ?_ | refine swp_block ?_)); refine swp_region (by kernel_rfl) ?_
  repeat (first | refine x_move (by rfl) ?_ | refine x_as (by rfl) (by rfl) ?_ | refine x_skip (by rfl) ?_ | refine x_fld (by rfl) (by rfl) FldO.h ?_ | refine x_nilck (by rfl) (by rfl) ?_ | refine x_len (by rfl) (by rfl) ElOf.some ?_ | refine x_ext (by rfl) (by rfl) (by rfl) ?_ | refine x_pickT (by rfl) (by rfl) (by rfl) ?_ | refine x_pickF (by rfl) (by rfl) (by rfl) ?_ | refine x_add (by rfl) (by rfl) (by rfl) (by omega) ?_ | refine x_sub (by rfl) (by rfl) (by rfl) (by omega) ?_ | refine x_not (by rfl) (by rfl) ?_)
  refine w_call (by rfl) (by rfl) (by rfl) (roomy_ (show (aW vf xf).P w7 from R7.nth (i := 1) rfl).2 loF (by omega)) ?_
  rintro _ w8 ⟨rfl, r8, u8⟩
  have R8 : Rg w w8 [aW vm xm, aW vf xf, aDv bd Gd Sd Nd, aDv bw Gw Sw Nw] := R7.turn (i := 1) rfl u8 rfl r8 fun _ h => h
  repeat (first | refine x_move (by rfl) ?_ | refine x_as (by rfl) (by rfl) ?_ | refine x_skip (by rfl) ?_ | refine x_fld (by rfl) (by rfl) FldO.h ?_ | refine x_nilck (by rfl) (by rfl) ?_ | refine x_len (by rfl) (by rfl) ElOf.some ?_ | refine x_ext (by rfl) (by rfl) (by rfl) ?_ | refine x_pickT (by rfl) (by rfl) (by rfl) ?_ | refine x_pickF (by rfl) (by rfl) (by rfl) ?_ | refine x_add (by rfl) (by rfl) (by rfl) (by omega) ?_ | refine x_sub (by rfl) (by rfl) (by rfl) (by omega) ?_ | refine x_not (by rfl) (by rfl) ?_)
  refine w_call (by rfl) (by rfl) (by rfl) (roomy_ (show (aW vm xm).P w8 from R8.nth (i := 0) rfl).2 loM (by omega)) ?_
  rintro _ w9 ⟨rfl, r9, u9⟩
  have R9 : Rg w w9 [aW vm xm, aW vf xf, aDv bd Gd Sd Nd, aDv bw Gw Sw Nw] := R8.turn (i := 0) rfl u9 rfl r9 fun _ h => h
  repeat (first | refine x_move (by rfl) ?_ | refine x_as (by rfl) (by rfl) ?_ | refine x_skip (by rfl) ?_ | refine x_fld (by rfl) (by rfl) FldO.h ?_ | refine x_nilck (by rfl) (by rfl) ?_ | refine x_len (by rfl) (by rfl) ElOf.some ?_ | refine x_ext (by rfl) (by rfl) (by rfl) ?_ | refine x_pickT (by rfl) (by rfl) (by rfl) ?_ | refine x_pickF (by rfl) (by rfl) (by rfl) ?_ | refine x_add (by rfl) (by rfl) (by rfl) (by omega) ?_ | refine x_sub (by rfl) (by rfl) (by rfl) (by omega) ?_ | refine x_not (by rfl) (by rfl) ?_)
  refine w_call (by rfl) (by rfl) (by rfl) (apart_ (show (aW vm xm).P w9 from R9.nth (i := 0) rfl).2 loM (by omega)) ?_
  rintro _ w10 ⟨rfl, -, u10⟩
  have R10 : Rg w w10 [aW vf xf, aDv bd Gd Sd Nd, aDv bw Gw Sw Nw] := R9.waste u10
  repeat (first | refine x_move (by rfl) ?_ | refine x_as (by rfl) (by rfl) ?_ | refine x_skip (by rfl) ?_ | refine x_fld (by rfl) (by rfl) FldO.h ?_ | refine x_nilck (by rfl) (by rfl) ?_ | refine x_len (by rfl) (by rfl) ElOf.some ?_ | refine x_ext (by rfl) (by rfl) (by rfl) ?_ | refine x_pickT (by rfl) (by rfl) (by rfl) ?_ | refine x_pickF (by rfl) (by rfl) (by rfl) ?_ | refine x_add (by rfl) (by rfl) (by rfl) (by omega) ?_ | refine x_sub (by rfl) (by rfl) (by rfl) (by omega) ?_ | refine x_not (by rfl) (by rfl) ?_)
  refine x_nilw ?_
  clear R7 R8 R9 r8 r9 u8 u9 u10
  (repeat (first | refine swp_seq ?_ | refine swp_block ?_))
  refine swp_false (by rfl) (swp_skip ?_)
  (repeat (first | with_reducible refine n_then ?_ | with_reducible refine n_block ?_ | with_reducible refine n_jump ?_))
  (repeat (first | refine swp_seq ?_ | refine swp_block ?_)); refine swp_region (by kernel_rfl) ?_
  repeat (first | refine x_move (by rfl) ?_ | refine x_as (by rfl) (by rfl) ?_ | refine x_skip (by rfl) ?_ | refine x_fld (by rfl) (by rfl) FldO.h ?_)
  refine w_call (by rfl) (by rfl) (by rfl) (spoil_ 2 (show (aW vf xf).P w10 from R10.nth (i := 0) rfl).2 loF (by omega) (by omega)) ?_
  rintro _ w11 ⟨u11, -⟩
  refine x_nilw ?_
  have R11 : Rg w w11 [aDv bd Gd Sd Nd, aDv bw Gw Sw Nw] := R10.waste u11
  clear R10 u11
  refine swp_fit [(1, .int .i64 mk), (5, .pointer (some ⟨bw, 0, none⟩)), (9, .pointer (some ⟨bd, 0, none⟩))] ⟨rfl, rfl, rfl, trivial⟩ fun ρ => ?_
  (repeat (first | refine swp_seq ?_ | refine swp_block ?_)); refine swp_region (by kernel_rfl) ?_
  repeat (first | refine x_move (by rfl) ?_ | refine x_as (by rfl) (by rfl) ?_ | refine x_skip (by rfl) ?_ | refine x_fld (by rfl) (by rfl) FldO.h ?_)
  refine w_call (by rfl) (by rfl) (by rfl) (due_listO (show (aDv bd Gd Sd Nd).P w11 from R11.nth (i := 0) rfl).1 (roomS (by omega) (by omega)) (by omega)) ?_
  rintro vs w12 ⟨xs, hWs, hss, u12⟩
  repeat (first | refine x_move (by rfl) ?_ | refine x_as (by rfl) (by rfl) ?_ | refine x_skip (by rfl) ?_ | refine x_fld (by rfl) (by rfl) FldO.h ?_)
  refine x_nilw ?_
  have R12 : Rg w w12 [aW vs xs, aDv bd Gd Sd Nd, aDv bw Gw Sw Nw] := R11.list hWs u12
  clear R11 hWs u12
  have loS := los_says hss loD
  have lS := len_says hss
  (repeat (first | refine swp_seq ?_ | refine swp_block ?_)); refine swp_region (by kernel_rfl) ?_
  repeat (first | refine x_move (by rfl) ?_ | refine x_as (by rfl) (by rfl) ?_ | refine x_skip (by rfl) ?_ | refine x_fld (by rfl) (by rfl) FldO.h ?_)
  refine w_call (by rfl) (by rfl) (by rfl) (copiedO (show (aW vs xs).P w12 from R12.nth (i := 0) rfl).2.rl (by omega)) ?_
  rintro vk w13 ⟨xk, hWk, hsk, u13⟩
  repeat (first | refine x_move (by rfl) ?_ | refine x_as (by rfl) (by rfl) ?_ | refine x_skip (by rfl) ?_ | refine x_fld (by rfl) (by rfl) FldO.h ?_)
  refine x_nilw ?_
  have R13 : Rg w w13 [aW vk xk, aW vs xs, aDv bd Gd Sd Nd, aDv bw Gw Sw Nw] := R12.list hWk u13
  clear R12 hWk u13
  (repeat (first | refine swp_seq ?_ | refine swp_block ?_)); refine swp_region (by kernel_rfl) ?_
  repeat (first | refine x_move (by rfl) ?_ | refine x_as (by rfl) (by rfl) ?_ | refine x_skip (by rfl) ?_ | refine x_fld (by rfl) (by rfl) FldO.h ?_)
  have pd := show (aDv bd Gd Sd Nd).P w13 from R13.nth (i := 2) rfl
  refine w_call (by rfl) (by rfl) (by rfl) (due_takeO mk pd.1 (roomS (by omega) (by omega)) (by omega)) ?_
  rintro vo w14 ⟨xo, hWo, hso, hD14, u14, -⟩
  repeat (first | refine x_move (by rfl) ?_ | refine x_as (by rfl) (by rfl) ?_ | refine x_skip (by rfl) ?_ | refine x_fld (by rfl) (by rfl) FldO.h ?_)
  refine x_nilw ?_
  have R14 : Rg w w14 [aW vo xo, aW vk xk, aW vs xs, aDv bd Gd (Sd.dropWhile (by_ mk)) Nd, aDv bw Gw Sw Nw] := R13.upd2 (i := 2) (a' := aDv bd Gd (Sd.dropWhile (by_ mk)) Nd) (n := aW vo xo) rfl u14 (fun _ _ hb => hb) ⟨hD14, fun b hb => Nat.lt_of_lt_of_le (pd.2 b hb) u14.size⟩ (fun _ hb => .inl hb) ⟨hWo.own, hWo.rw'⟩ (fun b hb => hb.elim (hWo.new b) fun ⟨x, hx, hb⟩ => hWo.newE x hx b hb) fun b hb hg => by
    have q1 := pd.2 b hg
    have q2 : w13.heap.size ≤ b := hb.elim (hWo.new b) fun ⟨x, hx, hb⟩ => hWo.newE x hx b hb
    omega
  clear R13 hWo u14 pd hD14
  have loTk : ∀ y ∈ Sd.takeWhile (by_ mk), y.Lo := fun y hy => loD y ((List.takeWhile_sublist _).mem hy)
  have lTk : (Sd.takeWhile (by_ mk)).length ≤ 524288 := Nat.le_trans (List.takeWhile_sublist _).length_le lD
  have lDk : (Sd.dropWhile (by_ mk)).length ≤ 524288 := Nat.le_trans (List.dropWhile_sublist _).length_le lD
  have loDk : ∀ y ∈ Sd.dropWhile (by_ mk), y.Lo := fun y hy => loD y ((List.dropWhile_sublist _).mem hy)
  have loO := los_says hso loTk
  have lO := len_says hso
  (repeat (first | refine swp_seq ?_ | refine swp_block ?_)); refine swp_region (by kernel_rfl) ?_
  repeat (first | refine x_move (by rfl) ?_ | refine x_as (by rfl) (by rfl) ?_ | refine x_skip (by rfl) ?_ | refine x_fld (by rfl) (by rfl) FldO.h ?_)
  refine w_call (by rfl) (by rfl) (by rfl) (copiedO (show (aW vo xo).P w14 from R14.nth (i := 0) rfl).2.rl (by omega)) ?_
  rintro vt w15 ⟨xt, hWt, hst, u15⟩
  repeat (first | refine x_move (by rfl) ?_ | refine x_as (by rfl) (by rfl) ?_ | refine x_skip (by rfl) ?_ | refine x_fld (by rfl) (by rfl) FldO.h ?_ | refine x_nilck (by rfl) (by rfl) ?_ | refine x_len (by rfl) (by rfl) ElOf.some ?_ | refine x_ext (by rfl) (by rfl) (by rfl) ?_ | refine x_pickT (by rfl) (by rfl) (by rfl) ?_ | refine x_pickF (by rfl) (by rfl) (by rfl) ?_ | refine x_add (by rfl) (by rfl) (by rfl) (by omega) ?_ | refine x_sub (by rfl) (by rfl) (by rfl) (by omega) ?_ | refine x_not (by rfl) (by rfl) ?_)
  refine x_nilw ?_
  have R15 : Rg w w15 [aW vt xt, aW vo xo, aW vk xk, aW vs xs, aDv bd Gd (Sd.dropWhile (by_ mk)) Nd, aDv bw Gw Sw Nw] := R14.list hWt u15
  clear R14 hWt u15
  refine swp_fit [(1, .int .i64 mk), (5, .pointer (some ⟨bw, 0, none⟩)), (9, .pointer (some ⟨bd, 0, none⟩)), (14, vs), (15, vk), (16, vo), (17, vt)] ⟨rfl, rfl, rfl, rfl, rfl, rfl, rfl, trivial⟩ fun ρ => ?_
  (repeat (first | refine swp_seq ?_ | refine swp_block ?_)); refine swp_region (by kernel_rfl) ?_
  repeat (first | refine x_move (by rfl) ?_ | refine x_as (by rfl) (by rfl) ?_ | refine x_skip (by rfl) ?_ | refine x_fld (by rfl) (by rfl) FldO.h ?_ | refine x_nilck (by rfl) (by rfl) ?_ | refine x_len (by rfl) (by rfl) ElOf.some ?_ | refine x_ext (by rfl) (by rfl) (by rfl) ?_ | refine x_pickT (by rfl) (by rfl) (by rfl) ?_ | refine x_pickF (by rfl) (by rfl) (by rfl) ?_ | refine x_add (by rfl) (by rfl) (by rfl) (by omega) ?_ | refine x_sub (by rfl) (by rfl) (by rfl) (by omega) ?_ | refine x_not (by rfl) (by rfl) ?_)
  refine w_call (by rfl) (by rfl) (by rfl) (spoil_ 3 (show (aW vs xs).P w15 from R15.nth (i := 3) rfl).2 loS (by omega) (by omega)) ?_
  rintro _ w16 ⟨u16, -⟩
  refine x_nilw ?_
  have R16 : Rg w w16 [aW vt xt, aW vo xo, aW vk xk, aDv bd Gd (Sd.dropWhile (by_ mk)) Nd, aDv bw Gw Sw Nw] := (show Rg w w15 (aW vs xs :: [aW vt xt, aW vo xo, aW vk xk, aDv bd Gd (Sd.dropWhile (by_ mk)) Nd, aDv bw Gw Sw Nw]) from R15.pull 3 rfl).waste u16
  clear R15 u16
  (repeat (first | refine swp_seq ?_ | refine swp_block ?_)); refine swp_region (by kernel_rfl) ?_
  repeat (first | refine x_move (by rfl) ?_ | refine x_as (by rfl) (by rfl) ?_ | refine x_skip (by rfl) ?_ | refine x_fld (by rfl) (by rfl) FldO.h ?_ | refine x_nilck (by rfl) (by rfl) ?_ | refine x_len (by rfl) (by rfl) ElOf.some ?_ | refine x_ext (by rfl) (by rfl) (by rfl) ?_ | refine x_pickT (by rfl) (by rfl) (by rfl) ?_ | refine x_pickF (by rfl) (by rfl) (by rfl) ?_ | refine x_add (by rfl) (by rfl) (by rfl) (by omega) ?_ | refine x_sub (by rfl) (by rfl) (by rfl) (by omega) ?_ | refine x_not (by rfl) (by rfl) ?_)
  refine w_call (by rfl) (by rfl) (by rfl) (same_all (show (aW vo xo).P w16 from R16.nth (i := 1) rfl).2.rl (show (aW vt xt).P w16 from R16.nth (i := 0) rfl).2.rl hst.symm (by omega)) ?_
  rintro _ w17 ⟨rfl, u17⟩
  have R17 := R16.ext u17
  repeat (first | refine x_move (by rfl) ?_ | refine x_as (by rfl) (by rfl) ?_ | refine x_skip (by rfl) ?_ | refine x_fld (by rfl) (by rfl) FldO.h ?_ | refine x_nilck (by rfl) (by rfl) ?_ | refine x_len (by rfl) (by rfl) ElOf.some ?_ | refine x_ext (by rfl) (by rfl) (by rfl) ?_ | refine x_pickT (by rfl) (by rfl) (by rfl) ?_ | refine x_pickF (by rfl) (by rfl) (by rfl) ?_ | refine x_add (by rfl) (by rfl) (by rfl) (by omega) ?_ | refine x_sub (by rfl) (by rfl) (by rfl) (by omega) ?_ | refine x_not (by rfl) (by rfl) ?_)
  refine w_call (by rfl) (by rfl) (by rfl) (due_listO (show (aDv bw Gw Sw Nw).P w17 from R17.nth (i := 4) rfl).1 (roomS (by omega) (by omega)) (by omega)) ?_
  rintro vl w18 ⟨xl, hWl, hsl, u18⟩
  have lK := len_says hsk
  refine w_call (by rfl) (by rfl) (by rfl) (same_all ((show (aW vk xk).P w17 from R17.nth (i := 2) rfl).2.rl.at u18) hWl.l.own_rl (by rw [hsk, hss, hsl, hSS]) (by omega)) ?_
  rintro _ w19 ⟨rfl, u19⟩
  repeat (first | refine x_move (by rfl) ?_ | refine x_as (by rfl) (by rfl) ?_ | refine x_skip (by rfl) ?_ | refine x_fld (by rfl) (by rfl) FldO.h ?_ | refine x_nilck (by rfl) (by rfl) ?_ | refine x_len (by rfl) (by rfl) ElOf.some ?_ | refine x_ext (by rfl) (by rfl) (by rfl) ?_ | refine x_pickT (by rfl) (by rfl) (by rfl) ?_ | refine x_pickF (by rfl) (by rfl) (by rfl) ?_ | refine x_add (by rfl) (by rfl) (by rfl) (by omega) ?_ | refine x_sub (by rfl) (by rfl) (by rfl) (by omega) ?_ | refine x_not (by rfl) (by rfl) ?_)
  refine x_nilw ?_
  have R19 : Rg w w19 [aW vt xt, aW vo xo, aDv bd Gd (Sd.dropWhile (by_ mk)) Nd, aDv bw Gw Sw Nw] := (R17.ext (u18.trans u19)).erase 2 rfl
  clear R16 R17 u17 u18 u19 hWl
  (repeat (first | refine swp_seq ?_ | refine swp_block ?_))
  refine swp_false (by rfl) (swp_skip ?_)
  (repeat (first | with_reducible refine n_then ?_ | with_reducible refine n_block ?_ | with_reducible refine n_jump ?_))
  (repeat (first | refine swp_seq ?_ | refine swp_block ?_)); refine swp_region (by kernel_rfl) ?_
  repeat (first | refine x_move (by rfl) ?_ | refine x_as (by rfl) (by rfl) ?_ | refine x_skip (by rfl) ?_ | refine x_fld (by rfl) (by rfl) FldO.h ?_ | refine x_nilck (by rfl) (by rfl) ?_ | refine x_len (by rfl) (by rfl) ElOf.some ?_ | refine x_ext (by rfl) (by rfl) (by rfl) ?_ | refine x_pickT (by rfl) (by rfl) (by rfl) ?_ | refine x_pickF (by rfl) (by rfl) (by rfl) ?_ | refine x_add (by rfl) (by rfl) (by rfl) (by omega) ?_ | refine x_sub (by rfl) (by rfl) (by rfl) (by omega) ?_ | refine x_not (by rfl) (by rfl) ?_)
  refine w_call (by rfl) (by rfl) (by rfl) (roomy_ (show (aW vo xo).P w19 from R19.nth (i := 1) rfl).2 loO (by omega)) ?_
  rintro _ w20 ⟨rfl, r20, u20⟩
  have R20 : Rg w w20 [aW vt xt, aW vo xo, aDv bd Gd (Sd.dropWhile (by_ mk)) Nd, aDv bw Gw Sw Nw] := R19.turn (i := 1) rfl u20 rfl r20 fun _ h => h
  repeat (first | refine x_move (by rfl) ?_ | refine x_as (by rfl) (by rfl) ?_ | refine x_skip (by rfl) ?_ | refine x_fld (by rfl) (by rfl) FldO.h ?_ | refine x_nilck (by rfl) (by rfl) ?_ | refine x_len (by rfl) (by rfl) ElOf.some ?_ | refine x_ext (by rfl) (by rfl) (by rfl) ?_ | refine x_pickT (by rfl) (by rfl) (by rfl) ?_ | refine x_pickF (by rfl) (by rfl) (by rfl) ?_ | refine x_add (by rfl) (by rfl) (by rfl) (by omega) ?_ | refine x_sub (by rfl) (by rfl) (by rfl) (by omega) ?_ | refine x_not (by rfl) (by rfl) ?_)
  refine w_call (by rfl) (by rfl) (by rfl) (apart_ (show (aW vo xo).P w20 from R20.nth (i := 1) rfl).2 loO (by omega)) ?_
  rintro _ w21 ⟨rfl, ⟨ys, hyc, loY, r21, hyf⟩, u21⟩
  have R21 : Rg w w21 [aW vt xt, aW vo ys, aDv bd Gd (Sd.dropWhile (by_ mk)) Nd, aDv bw Gw Sw Nw] := R20.turn (i := 1) rfl u21 hyc r21 hyf
  repeat (first | refine x_move (by rfl) ?_ | refine x_as (by rfl) (by rfl) ?_ | refine x_skip (by rfl) ?_ | refine x_fld (by rfl) (by rfl) FldO.h ?_ | refine x_nilck (by rfl) (by rfl) ?_ | refine x_len (by rfl) (by rfl) ElOf.some ?_ | refine x_ext (by rfl) (by rfl) (by rfl) ?_ | refine x_pickT (by rfl) (by rfl) (by rfl) ?_ | refine x_pickF (by rfl) (by rfl) (by rfl) ?_ | refine x_add (by rfl) (by rfl) (by rfl) (by omega) ?_ | refine x_sub (by rfl) (by rfl) (by rfl) (by omega) ?_ | refine x_not (by rfl) (by rfl) ?_)
  refine x_nilw ?_
  clear R19 R20 r20 u20 r21 u21 hyf
  have lY : ys.length = xo.length := by have := congrArg List.length hyc; simpa using this
  (repeat (first | refine swp_seq ?_ | refine swp_block ?_))
  refine swp_false (by rfl) (swp_skip ?_)
  (repeat (first | with_reducible refine n_then ?_ | with_reducible refine n_block ?_ | with_reducible refine n_jump ?_))
  (repeat (first | refine swp_seq ?_ | refine swp_block ?_)); refine swp_region (by kernel_rfl) ?_
  repeat (first | refine x_move (by rfl) ?_ | refine x_as (by rfl) (by rfl) ?_ | refine x_skip (by rfl) ?_ | refine x_fld (by rfl) (by rfl) FldO.h ?_)
  refine w_call (by rfl) (by rfl) (by rfl) (spoil_ 4 (show (aW vo ys).P w21 from R21.nth (i := 1) rfl).2 loY (by omega) (by omega)) ?_
  rintro _ w22 ⟨u22, -⟩
  refine x_nilw ?_
  have R22 : Rg w w22 [aW vt xt, aDv bd Gd (Sd.dropWhile (by_ mk)) Nd, aDv bw Gw Sw Nw] := (show Rg w w21 (aW vo ys :: [aW vt xt, aDv bd Gd (Sd.dropWhile (by_ mk)) Nd, aDv bw Gw Sw Nw]) from R21.pull 1 rfl).waste u22
  clear R21 u22
  (repeat (first | refine swp_seq ?_ | refine swp_block ?_)); refine swp_region (by kernel_rfl) ?_
  repeat (first | refine x_move (by rfl) ?_ | refine x_as (by rfl) (by rfl) ?_ | refine x_skip (by rfl) ?_ | refine x_fld (by rfl) (by rfl) FldO.h ?_)
  refine w_call (by rfl) (by rfl) (by rfl) (due_listO (show (aDv bd Gd (Sd.dropWhile (by_ mk)) Nd).P w22 from R22.nth (i := 1) rfl).1 (roomS (by omega) (by omega)) (by omega)) ?_
  rintro vr w23 ⟨xr, hWr, hsr, u23⟩
  repeat (first | refine x_move (by rfl) ?_ | refine x_as (by rfl) (by rfl) ?_ | refine x_skip (by rfl) ?_ | refine x_fld (by rfl) (by rfl) FldO.h ?_)
  refine x_nilw ?_
  have R23 : Rg w w23 [aW vr xr, aW vt xt, aDv bd Gd (Sd.dropWhile (by_ mk)) Nd, aDv bw Gw Sw Nw] := R22.list hWr u23
  clear R22 hWr u23
  (repeat (first | refine swp_seq ?_ | refine swp_block ?_)); refine swp_region (by kernel_rfl) ?_
  repeat (first | refine x_move (by rfl) ?_ | refine x_as (by rfl) (by rfl) ?_ | refine x_skip (by rfl) ?_ | refine x_fld (by rfl) (by rfl) FldO.h ?_)
  have pw := show (aDv bw Gw Sw Nw).P w23 from R23.nth (i := 3) rfl
  refine w_call (by rfl) (by rfl) (by rfl) (due_takeO mk pw.1 (roomS (by omega) (by omega)) (by omega)) ?_
  rintro vg w24 ⟨xg, hWg, hsg, hD24, u24, -⟩
  repeat (first | refine x_move (by rfl) ?_ | refine x_as (by rfl) (by rfl) ?_ | refine x_skip (by rfl) ?_ | refine x_fld (by rfl) (by rfl) FldO.h ?_ | refine x_nilck (by rfl) (by rfl) ?_ | refine x_len (by rfl) (by rfl) ElOf.some ?_ | refine x_ext (by rfl) (by rfl) (by rfl) ?_ | refine x_pickT (by rfl) (by rfl) (by rfl) ?_ | refine x_pickF (by rfl) (by rfl) (by rfl) ?_ | refine x_add (by rfl) (by rfl) (by rfl) (by omega) ?_ | refine x_sub (by rfl) (by rfl) (by rfl) (by omega) ?_ | refine x_not (by rfl) (by rfl) ?_)
  refine x_nilw ?_
  have R24 : Rg w w24 [aW vg xg, aW vr xr, aW vt xt, aDv bd Gd (Sd.dropWhile (by_ mk)) Nd, aDv bw Gw (Sw.dropWhile (by_ mk)) Nw] := R23.upd2 (i := 3) (a' := aDv bw Gw (Sw.dropWhile (by_ mk)) Nw) (n := aW vg xg) rfl u24 (fun _ _ hb => hb) ⟨hD24, fun b hb => Nat.lt_of_lt_of_le (pw.2 b hb) u24.size⟩ (fun _ hb => .inl hb) ⟨hWg.own, hWg.rw'⟩ (fun b hb => hb.elim (hWg.new b) fun ⟨x, hx, hb⟩ => hWg.newE x hx b hb) fun b hb hg => by
    have q1 := pw.2 b hg
    have q2 : w23.heap.size ≤ b := hb.elim (hWg.new b) fun ⟨x, hx, hb⟩ => hWg.newE x hx b hb
    omega
  clear R23 hWg u24 pw hD24
  obtain ⟨hT1, hT2⟩ := take_says mk hSS
  have htg : xt.map Wt.says = xg.map Wt.says := by rw [hst, hso, hsg, hT1]
  have lT := len_says hst
  have lR := len_says hsr
  have lDw : (Sw.dropWhile (by_ mk)).length ≤ 524288 := Nat.le_trans (List.dropWhile_sublist _).length_le lW
  refine swp_fit [(5, .pointer (some ⟨bw, 0, none⟩)), (17, vt), (18, vr), (19, vg)] ⟨rfl, rfl, rfl, rfl, trivial⟩ fun ρ => ?_
  (repeat (first | refine swp_seq ?_ | refine swp_block ?_)); refine swp_region (by kernel_rfl) ?_
  repeat (first | refine x_move (by rfl) ?_ | refine x_as (by rfl) (by rfl) ?_ | refine x_skip (by rfl) ?_ | refine x_fld (by rfl) (by rfl) FldO.h ?_ | refine x_nilck (by rfl) (by rfl) ?_ | refine x_len (by rfl) (by rfl) ElOf.some ?_ | refine x_ext (by rfl) (by rfl) (by rfl) ?_ | refine x_pickT (by rfl) (by rfl) (by rfl) ?_ | refine x_pickF (by rfl) (by rfl) (by rfl) ?_ | refine x_add (by rfl) (by rfl) (by rfl) (by omega) ?_ | refine x_sub (by rfl) (by rfl) (by rfl) (by omega) ?_ | refine x_not (by rfl) (by rfl) ?_)
  refine w_call (by rfl) (by rfl) (by rfl) (same_all (show (aW vt xt).P w24 from R24.nth (i := 2) rfl).2.rl (show (aW vg xg).P w24 from R24.nth (i := 0) rfl).2.rl htg (by omega)) ?_
  rintro _ w25 ⟨rfl, u25⟩
  have R25 := R24.ext u25
  repeat (first | refine x_move (by rfl) ?_ | refine x_as (by rfl) (by rfl) ?_ | refine x_skip (by rfl) ?_ | refine x_fld (by rfl) (by rfl) FldO.h ?_ | refine x_nilck (by rfl) (by rfl) ?_ | refine x_len (by rfl) (by rfl) ElOf.some ?_ | refine x_ext (by rfl) (by rfl) (by rfl) ?_ | refine x_pickT (by rfl) (by rfl) (by rfl) ?_ | refine x_pickF (by rfl) (by rfl) (by rfl) ?_ | refine x_add (by rfl) (by rfl) (by rfl) (by omega) ?_ | refine x_sub (by rfl) (by rfl) (by rfl) (by omega) ?_ | refine x_not (by rfl) (by rfl) ?_)
  refine w_call (by rfl) (by rfl) (by rfl) (due_listO (show (aDv bw Gw (Sw.dropWhile (by_ mk)) Nw).P w25 from R25.nth (i := 4) rfl).1 (roomS (by omega) (by omega)) (by omega)) ?_
  rintro vl2 w26 ⟨xl2, hWl2, hsl2, u26⟩
  refine w_call (by rfl) (by rfl) (by rfl) (same_all ((show (aW vr xr).P w25 from R25.nth (i := 1) rfl).2.rl.at u26) hWl2.l.own_rl (by rw [hsr, hsl2, hT2]) (by omega)) ?_
  rintro _ w27 ⟨rfl, u27⟩
  repeat (first | refine x_move (by rfl) ?_ | refine x_as (by rfl) (by rfl) ?_ | refine x_skip (by rfl) ?_ | refine x_fld (by rfl) (by rfl) FldO.h ?_ | refine x_nilck (by rfl) (by rfl) ?_ | refine x_len (by rfl) (by rfl) ElOf.some ?_ | refine x_ext (by rfl) (by rfl) (by rfl) ?_ | refine x_pickT (by rfl) (by rfl) (by rfl) ?_ | refine x_pickF (by rfl) (by rfl) (by rfl) ?_ | refine x_add (by rfl) (by rfl) (by rfl) (by omega) ?_ | refine x_sub (by rfl) (by rfl) (by rfl) (by omega) ?_ | refine x_not (by rfl) (by rfl) ?_)
  refine x_nilw ?_
  have R27 : Rg w w27 [aW vg xg, aW vt xt] := (((R25.ext (u26.trans u27)).erase 4 rfl).erase 3 rfl).erase 1 rfl
  clear R24 R25 u25 u26 u27 hWl2
  have loG := los_says htg.symm (los_says hst loO)
  have lG := len_says htg
  have hlg : xg.length ≤ 524288 := by omega
  clear loTk loO loD loW loS loF loM loY lD lW lS lF lM lO lY lTk lDk loDk lK lR lDw hT1 hT2 hst hso hsg hsr hsl2 hsl hsk hss hsm hsf hSS hyc
  (repeat (first | refine swp_seq ?_ | refine swp_block ?_))
  refine swp_false (by rfl) (swp_skip ?_)
  (repeat (first | with_reducible refine n_then ?_ | with_reducible refine n_block ?_ | with_reducible refine n_jump ?_))
  have gsl := (show (aW vg xg).P w27 from R27.nth (i := 0) rfl).1.slice
  obtain ⟨ga, gc, rfl⟩ := gsl
  obtain ⟨ms, hms⟩ : ∃ ms, ms = xg.map Wt.m := ⟨_, rfl⟩
  have lms : ms.length = xg.length := by rw [hms, List.length_map]
  refine swp_fit [(17, vt), (19, .slice ga xg.length gc)] ⟨rfl, rfl, trivial⟩ fun ρ => ?_
  (repeat (first | refine swp_seq ?_ | refine swp_block ?_)); refine swp_region (by kernel_rfl) ?_
  repeat (first | refine x_move (by rfl) ?_ | refine x_as (by rfl) (by rfl) ?_ | refine x_skip (by rfl) ?_ | refine x_fld (by rfl) (by rfl) FldO.h ?_)
  refine x_nilw ?_
  refine swp_seq ?_
  refine PEv.swp_cutQ (fun σ w' => ∃ av, At σ [(17, vt), (19, .slice ga xg.length gc), (20, av)] ∧ Rg w w' [aOwn 29 4 av ms.length (fl Mt.cells ms), aW (.slice ga xg.length gc) xg, aW vt xt]) ?_ ?_
  · (repeat (first | refine swp_seq ?_ | refine swp_block ?_)); refine swp_region (by kernel_rfl) ?_
    repeat (first | refine x_move (by rfl) ?_ | refine x_as (by rfl) (by rfl) ?_ | refine x_skip (by rfl) ?_ | refine x_fld (by rfl) (by rfl) FldO.h ?_)
    refine x_nilw ?_
    refine swp_fit [(17, vt), (19, .slice ga xg.length gc), (20, .slice none 0 0), (21, .int .i64 ((0 : Nat) : Int))] ⟨rfl, rfl, rfl, rfl, trivial⟩ fun ρ => ?_
    have R28 : Rg w w27 [aOwn 29 4 (.slice none 0 0) 0 (fl Mt.cells (ms.take 0)), aW (.slice ga xg.length gc) xg, aW vt xt] := R27.new (a := aOwn 29 4 (.slice none 0 0) 0 (fl Mt.cells (ms.take 0))) (Upd.refl _ _) (Own.nil _ _ _) fun b hb => hb.elim
    (repeat (first | refine swp_seq ?_ | refine swp_block ?_))
    refine swp_loop (fun (i : Nat) σ w' => ∃ av, At σ [(17, vt), (19, .slice ga xg.length gc), (20, av), (21, .int .i64 (i : Nat))] ∧ i ≤ xg.length ∧ Rg w w' [aOwn 29 4 av i (fl Mt.cells (ms.take i)), aW (.slice ga xg.length gc) xg, aW vt xt]) (fun i => xg.length - i) 0 ⟨_, at_ ⟨rfl, rfl, rfl, rfl, trivial⟩, by omega, R28⟩ ?_
    rintro i σ w28 ⟨av, ⟨ρ, rfl⟩, hi, R⟩
    (repeat (first | refine swp_seq ?_ | refine swp_block ?_)); refine swp_region (by kernel_rfl) ?_
    repeat (first | refine x_move (by rfl) ?_ | refine x_as (by rfl) (by rfl) ?_ | refine x_len (by rfl) (by rfl) ElOf.some ?_ | refine x_add (by rfl) (by rfl) (by rfl) (by omega) ?_ | refine x_lss (by rfl) (by rfl) (by rfl) ?_)
    refine x_nilw ?_
    (repeat (first | refine swp_seq ?_ | refine swp_block ?_))
    refine swp_if (by rfl) (fun hc => swp_skip ?_) (fun hc => ?_)
    · have hi' : i < xg.length := by omega
      have hxe := nthE hi'
      obtain ⟨x, hxi⟩ := hxe
      have hmi : ms[i]? = some x.m := by rw [hms, List.getElem?_map, hxi]; rfl
      have rg := (show (aW (.slice ga xg.length gc) xg).P w28 from R.nth (i := 1) rfl).2.rd
      have hps := rg.pos (by omega)
      obtain ⟨gb, go', gd, hge, -, -⟩ := hps
      simp only [Value.slice.injEq] at hge
      obtain ⟨rfl, _, rfl⟩ := hge
      (repeat (first | with_reducible refine n_then ?_ | with_reducible refine n_block ?_ | with_reducible refine n_jump ?_))
      (repeat (first | refine swp_seq ?_ | refine swp_block ?_)); refine swp_region (by kernel_rfl) ?_
      repeat (first | refine x_move (by rfl) ?_ | refine x_as (by rfl) (by rfl) ?_ | refine x_skip (by rfl) ?_ | refine x_fld (by rfl) (by rfl) FldO.h ?_)
      refine x_idx i (by rfl) (by rfl) (by rfl) ElSz.h rfl hi' ?_
      repeat (first | refine x_move (by rfl) ?_ | refine x_as (by rfl) (by rfl) ?_ | refine x_skip (by rfl) ?_ | refine x_fld (by rfl) (by rfl) FldO.h ?_)
      refine w_load (by rfl) (by rfl) (load_m rg hxi rfl) ?_
      refine w_bslice (e := 29) (cs := x.m.cells) (by rfl) (by rfl) (by rfl) (by kernel_rfl) ?_
      intro bb wb _ ub hb
      have Rb := R.ext ub
      refine w_append (more := []) (news := x.m.cells) (by rfl) (by rfl) (by rfl) (by rfl) SlC.h (show Own wb 29 4 av i (fl Mt.cells (ms.take i)) from Rb.nth (i := 0) rfl) (by rw [List.append_nil]; exact hb) (by rfl) (by rfl) (by omega) (roomS (by omega) (by omega)) ?_
      intro av' w29 own29 u29 hin29
      repeat (first | refine x_move (by rfl) ?_ | refine x_as (by rfl) (by rfl) ?_ | refine x_skip (by rfl) ?_ | refine x_fld (by rfl) (by rfl) FldO.h ?_)
      refine x_nilw ?_
      (repeat (first | with_reducible refine n_then ?_ | with_reducible refine n_block ?_ | with_reducible refine n_jump ?_))
      (repeat (first | refine swp_seq ?_ | refine swp_block ?_)); refine swp_region (by kernel_rfl) ?_
      repeat (first | refine x_move (by rfl) ?_ | refine x_as (by rfl) (by rfl) ?_ | refine x_len (by rfl) (by rfl) ElOf.some ?_ | refine x_add (by rfl) (by rfl) (by rfl) (by omega) ?_ | refine x_lss (by rfl) (by rfl) (by rfl) ?_)
      refine x_nilw ?_
      have own' : Own w29 29 4 av' (i + 1) (fl Mt.cells (ms.take (i + 1))) := by
        rw [← take_fl hmi]
        exact own29
      exact ⟨i + 1, ⟨av', at_ ⟨rfl, rfl, rfl, rfl, trivial⟩, hi', Rb.upd (i := 0) (a' := aOwn 29 4 av' (i + 1) (fl Mt.cells (ms.take (i + 1)))) rfl u29 (fun _ _ e => e) own' hin29⟩, by omega⟩
    · have hin : i = ms.length := by omega
      rw [hin, List.take_length] at R
      refine swp_exit ?_; (repeat (first | with_reducible refine e_then ?_ | with_reducible refine e_jump ?_)); refine e_block ?_; (repeat (first | with_reducible refine n_then ?_ | with_reducible refine n_block ?_ | with_reducible refine n_jump ?_))
      exact ⟨rfl, av, at_ ⟨rfl, rfl, rfl, trivial⟩, R⟩
  clear R27
  rintro σ w28 ⟨av, ⟨ρ, rfl⟩, R⟩
  refine n_then ?_
  have asl := (show Own w28 29 4 av ms.length (fl Mt.cells ms) from R.nth (i := 0) rfl).slice
  obtain ⟨aa, ac, rfl⟩ := asl
  -- the same list twice, merged
  (repeat (first | refine swp_seq ?_ | refine swp_block ?_)); refine swp_region (by kernel_rfl) ?_
  repeat (first | refine x_move (by rfl) ?_ | refine x_as (by rfl) (by rfl) ?_ | refine x_skip (by rfl) ?_ | refine x_fld (by rfl) (by rfl) FldO.h ?_)
  refine w_bslice (e := 23) (cs := [.slice aa ms.length ac, .slice aa ms.length ac]) (by rfl) (by rfl) (by rfl) (by kernel_rfl) ?_
  intro bb wb _ ub hb
  have Rb := R.ext ub
  have hRm : (Ml.mk aa ac ms).Rdy wb := by
    refine ⟨(show Own wb 29 4 (.slice aa ms.length ac) ms.length (fl Mt.cells ms) from Rb.nth (i := 0) rfl).rd, fun m hm => ?_, fun m hm => ?_⟩
    · rw [hms] at hm
      obtain ⟨x, hxm, rfl⟩ := List.mem_map.1 hm
      exact (Wt.rdy_of ((show (aW (.slice ga xg.length gc) xg).P wb from Rb.nth (i := 1) rfl).2.item hxm)).m
    · rw [hms] at hm
      obtain ⟨x, hxm, rfl⟩ := List.mem_map.1 hm
      exact (Wt.rdy_of ((show (aW (.slice ga xg.length gc) xg).P wb from Rb.nth (i := 1) rfl).2.item hxm)).sm
  have hrows : Rd wb 1 (.slice (some ⟨bb, 0, none⟩) [Ml.mk aa ac ms, Ml.mk aa ac ms].length 2) [Ml.mk aa ac ms, Ml.mk aa ac ms].length (fl Ml.cells [Ml.mk aa ac ms, Ml.mk aa ac ms]) := (Own.of (rest := []) rfl hb (by simp) (by simp [maxLen]) rfl).rd
  have hall : allMs [Ml.mk aa ac ms, Ml.mk aa ac ms] = ms ++ ms := by simp [allMs]
  refine w_call (by rfl) (by rfl) (by rfl) (merge_walk hrows (fun r hr => by
    simp only [List.mem_cons, List.mem_nil_iff, or_false, or_self] at hr
    rw [hr]
    exact hRm) (by simp) (by rw [hall, List.length_append]; exact roomS (by omega) (by omega)) (by rw [hall, List.length_append]; omega)) ?_
  rintro vm w29 ⟨out, hO, hOs, u29⟩
  repeat (first | refine x_move (by rfl) ?_ | refine x_as (by rfl) (by rfl) ?_ | refine x_skip (by rfl) ?_ | refine x_fld (by rfl) (by rfl) FldO.h ?_)
  refine x_nilw ?_
  have hlo := lo_mt hOs (fun m hm => by
    rw [hall] at hm
    have hm' : m ∈ ms := by simpa using hm
    rw [hms] at hm'
    obtain ⟨x, hxm, rfl⟩ := List.mem_map.1 hm'
    exact ⟨(loG x hxm).n, (loG x hxm).l, (loG x hxm).v⟩)
  obtain ⟨loOut, lOut⟩ := hlo
  rw [hall, List.length_append] at lOut
  have hn2 : out.length ≤ 1048576 := by omega
  have R29 : Rg w w29 [aOwn 29 4 vm out.length (fl Mt.cells out), aMs out, aOwn 29 4 (.slice aa ms.length ac) ms.length (fl Mt.cells ms), aW (.slice ga xg.length gc) xg, aW vt xt] := by
    refine Rg.frame (sq := []) (sq' := [aOwn 29 4 vm out.length (fl Mt.cells out), aMs out]) (show Rg w wb ([] ++ _) from Rb) u29 (fun _ _ h => h.elim) ⟨hO.own, fun b hb c hc hcb => ?_, hO.each, by simp, trivial⟩ fun c hc b hcb => .inr ?_
    · rw [List.mem_singleton.1 hc] at hcb
      obtain ⟨m, hm, hmb⟩ := hcb
      exact hO.ap m hm b hmb hb
    · have q1 : c = aOwn 29 4 vm out.length (fl Mt.cells out) ∨ c = aMs out := by simpa using hc
      rcases q1 with rfl | rfl
      · exact hO.new b hcb
      · obtain ⟨m, hm, hmb⟩ := hcb
        exact hO.newE m hm b hmb
  have hpw := hO.pw
  have msl := hO.own.slice
  obtain ⟨ma, mc, rfl⟩ := msl
  clear hO hRm hrows Rb R hb ub u29 hOs
  refine swp_fit [(17, vt), (19, .slice ga xg.length gc), (20, .slice aa ms.length ac), (22, .slice ma out.length mc)] ⟨rfl, rfl, rfl, rfl, trivial⟩ fun ρ => ?_
  (repeat (first | refine swp_seq ?_ | refine swp_block ?_)); refine swp_region (by kernel_rfl) ?_
  repeat (first | refine x_move (by rfl) ?_ | refine x_as (by rfl) (by rfl) ?_ | refine x_skip (by rfl) ?_ | refine x_fld (by rfl) (by rfl) FldO.h ?_)
  refine x_nilw ?_
  obtain ⟨b0s, hb0s⟩ : ∃ b0s, b0s = out.map wOf := ⟨_, rfl⟩
  have lb0 : b0s.length = out.length := by rw [hb0s, List.length_map]
  refine swp_seq ?_
  refine PEv.swp_cutQ (fun σ w' => ∃ bv, At σ [(17, vt), (19, .slice ga xg.length gc), (20, .slice aa ms.length ac), (23, bv)] ∧ Rg w w' [aOwn 40 5 bv b0s.length (fl Wt.cells b0s), aOwn 29 4 (.slice ma out.length mc) out.length (fl Mt.cells out), aMs out, aOwn 29 4 (.slice aa ms.length ac) ms.length (fl Mt.cells ms), aW (.slice ga xg.length gc) xg, aW vt xt]) ?_ ?_
  · (repeat (first | refine swp_seq ?_ | refine swp_block ?_)); refine swp_region (by kernel_rfl) ?_
    repeat (first | refine x_move (by rfl) ?_ | refine x_as (by rfl) (by rfl) ?_ | refine x_skip (by rfl) ?_ | refine x_fld (by rfl) (by rfl) FldO.h ?_)
    refine x_nilw ?_
    refine swp_fit [(17, vt), (19, .slice ga xg.length gc), (20, .slice aa ms.length ac), (22, .slice ma out.length mc), (23, .slice none 0 0), (24, .int .i64 ((0 : Nat) : Int))] ⟨rfl, rfl, rfl, rfl, rfl, rfl, trivial⟩ fun ρ => ?_
    have R30 := R29.new (a := aOwn 40 5 (.slice none 0 0) 0 (fl Wt.cells (b0s.take 0))) (Upd.refl _ _) (Own.nil _ _ _) fun b hb => hb.elim
    (repeat (first | refine swp_seq ?_ | refine swp_block ?_))
    refine swp_loop (fun (i : Nat) σ w' => ∃ bv, At σ [(17, vt), (19, .slice ga xg.length gc), (20, .slice aa ms.length ac), (22, .slice ma out.length mc), (23, bv), (24, .int .i64 (i : Nat))] ∧ i ≤ out.length ∧ Rg w w' [aOwn 40 5 bv i (fl Wt.cells (b0s.take i)), aOwn 29 4 (.slice ma out.length mc) out.length (fl Mt.cells out), aMs out, aOwn 29 4 (.slice aa ms.length ac) ms.length (fl Mt.cells ms), aW (.slice ga xg.length gc) xg, aW vt xt]) (fun i => out.length - i) 0 ⟨_, at_ ⟨rfl, rfl, rfl, rfl, rfl, rfl, trivial⟩, by omega, R30⟩ ?_
    rintro i σ w30 ⟨bv, ⟨ρ, rfl⟩, hi, R⟩
    (repeat (first | refine swp_seq ?_ | refine swp_block ?_)); refine swp_region (by kernel_rfl) ?_
    repeat (first | refine x_move (by rfl) ?_ | refine x_as (by rfl) (by rfl) ?_ | refine x_len (by rfl) (by rfl) ElOf.some ?_ | refine x_add (by rfl) (by rfl) (by rfl) (by omega) ?_ | refine x_lss (by rfl) (by rfl) (by rfl) ?_)
    refine x_nilw ?_
    (repeat (first | refine swp_seq ?_ | refine swp_block ?_))
    refine swp_if (by rfl) (fun hc => swp_skip ?_) (fun hc => ?_)
    · have hi' : i < out.length := by omega
      have hxe := nthE hi'
      obtain ⟨m, hmi⟩ := hxe
      have hbi : b0s[i]? = some (wOf m) := by rw [hb0s, List.getElem?_map, hmi]; rfl
      have rm := (show Own w30 29 4 (.slice ma out.length mc) out.length (fl Mt.cells out) from R.nth (i := 1) rfl).rd
      have hps := rm.pos (by omega)
      obtain ⟨gb, go', gd, hge, -, -⟩ := hps
      simp only [Value.slice.injEq] at hge
      obtain ⟨rfl, _, rfl⟩ := hge
      (repeat (first | with_reducible refine n_then ?_ | with_reducible refine n_block ?_ | with_reducible refine n_jump ?_))
      (repeat (first | refine swp_seq ?_ | refine swp_block ?_)); refine swp_region (by kernel_rfl) ?_
      repeat (first | refine x_move (by rfl) ?_ | refine x_as (by rfl) (by rfl) ?_ | refine x_skip (by rfl) ?_ | refine x_fld (by rfl) (by rfl) FldO.h ?_ | refine x_nilck (by rfl) (by rfl) ?_ | refine x_len (by rfl) (by rfl) ElOf.some ?_ | refine x_ext (by rfl) (by rfl) (by rfl) ?_ | refine x_pickT (by rfl) (by rfl) (by rfl) ?_ | refine x_pickF (by rfl) (by rfl) (by rfl) ?_ | refine x_add (by rfl) (by rfl) (by rfl) (by omega) ?_ | refine x_sub (by rfl) (by rfl) (by rfl) (by omega) ?_ | refine x_not (by rfl) (by rfl) ?_)
      refine x_idx i (by rfl) (by rfl) (by rfl) ElSz.h rfl hi' ?_
      refine w_load (by rfl) (by rfl) (rd_load mt_len AggT.h rm hmi rfl rfl) ?_
      refine x_build (v := .agg (wOf m).cells.toArray) (by rfl) (by rfl) (fun _ => by kernel_rfl) ?_
      refine w_bslice (e := 40) (cs := (wOf m).cells) (by rfl) (by rfl) (by rfl) (by kernel_rfl) ?_
      intro bb wb _ ub hb
      have Rb := R.ext ub
      refine w_append (more := []) (news := (wOf m).cells) (by rfl) (by rfl) (by rfl) (by rfl) SlC.h (show Own wb 40 5 bv i (fl Wt.cells (b0s.take i)) from Rb.nth (i := 0) rfl) (by rw [List.append_nil]; exact hb) (by rfl) (by rfl) (by omega) (roomS (by omega) (by omega)) ?_
      intro bv' w31 own31 u31 hin31
      repeat (first | refine x_move (by rfl) ?_ | refine x_as (by rfl) (by rfl) ?_ | refine x_skip (by rfl) ?_ | refine x_fld (by rfl) (by rfl) FldO.h ?_ | refine x_nilck (by rfl) (by rfl) ?_ | refine x_len (by rfl) (by rfl) ElOf.some ?_ | refine x_ext (by rfl) (by rfl) (by rfl) ?_ | refine x_pickT (by rfl) (by rfl) (by rfl) ?_ | refine x_pickF (by rfl) (by rfl) (by rfl) ?_ | refine x_add (by rfl) (by rfl) (by rfl) (by omega) ?_ | refine x_sub (by rfl) (by rfl) (by rfl) (by omega) ?_ | refine x_not (by rfl) (by rfl) ?_)
      refine x_nilw ?_
      (repeat (first | with_reducible refine n_then ?_ | with_reducible refine n_block ?_ | with_reducible refine n_jump ?_))
      (repeat (first | refine swp_seq ?_ | refine swp_block ?_)); refine swp_region (by kernel_rfl) ?_
      repeat (first | refine x_move (by rfl) ?_ | refine x_as (by rfl) (by rfl) ?_ | refine x_skip (by rfl) ?_ | refine x_fld (by rfl) (by rfl) FldO.h ?_ | refine w_load (by rfl) (by rfl) (load_one OneT.h (by assumption) (by rfl)) ?_ | refine x_nilck (by rfl) (by rfl) ?_ | refine x_len (by rfl) (by rfl) ElOf.some ?_ | refine x_iface (by rfl) (by rfl) NIf.h ?_ | refine x_ext (by rfl) (by rfl) (by rfl) ?_ | refine x_pickT (by rfl) (by rfl) (by rfl) ?_ | refine x_pickF (by rfl) (by rfl) (by rfl) ?_ | refine x_add (by rfl) (by rfl) (by rfl) (by omega) ?_ | refine x_sub (by rfl) (by rfl) (by rfl) (by omega) ?_ | refine x_lss (by rfl) (by rfl) (by rfl) ?_ | refine x_geq (by rfl) (by rfl) (by rfl) ?_ | refine x_leq (by rfl) (by rfl) (by rfl) ?_ | refine x_gtr (by rfl) (by rfl) (by rfl) ?_ | refine x_eql (by rfl) (by rfl) (by rfl) ?_ | refine x_neq (by rfl) (by rfl) (by rfl) ?_ | refine x_not (by rfl) (by rfl) ?_)
      refine x_nilw ?_
      have own' : Own w31 40 5 bv' (i + 1) (fl Wt.cells (b0s.take (i + 1))) := by
        rw [← take_fl hbi]
        exact own31
      exact ⟨i + 1, ⟨bv', at_ ⟨rfl, rfl, rfl, rfl, rfl, rfl, trivial⟩, hi', Rb.upd (i := 0) (a' := aOwn 40 5 bv' (i + 1) (fl Wt.cells (b0s.take (i + 1)))) rfl u31 (fun _ _ e => e) own' hin31⟩, by omega⟩
    · have hin : i = b0s.length := by omega
      rw [hin, List.take_length] at R
      refine swp_exit ?_; (repeat (first | with_reducible refine e_then ?_ | with_reducible refine e_jump ?_)); refine e_block ?_; (repeat (first | with_reducible refine n_then ?_ | with_reducible refine n_block ?_ | with_reducible refine n_jump ?_))
      exact ⟨rfl, bv, at_ ⟨rfl, rfl, rfl, rfl, trivial⟩, R⟩
  clear R29
  rintro σ w30 ⟨bv, ⟨ρ, rfl⟩, R⟩
  refine n_then ?_
  have R31 : Rg w w30 [aW bv b0s, aOwn 29 4 (.slice aa ms.length ac) ms.length (fl Mt.cells ms), aW (.slice ga xg.length gc) xg, aW vt xt] := by
    have R0 : Rg w w30 ([aOwn 40 5 bv b0s.length (fl Wt.cells b0s), aMs out] ++ [aOwn 29 4 (.slice aa ms.length ac) ms.length (fl Mt.cells ms), aW (.slice ga xg.length gc) xg, aW vt xt]) := R.erase 1 rfl
    have ho : Own w30 40 5 bv b0s.length (fl Wt.cells b0s) := R0.nth (i := 0) rfl
    have hmo : ∀ m ∈ out, m.Own w30 := R0.nth (i := 1) rfl
    have hs : Star w30 (b0s.map Wt.as) := by rw [hb0s]; exact star_mt hmo hpw
    have hap : ∀ x ∈ b0s, ∀ b, x.as.In b → ¬isIn bv b := fun x hx b hb => by
      rw [hb0s] at hx
      obtain ⟨m, hm, rfl⟩ := List.mem_map.1 hx
      have hne : ¬(aOwn 40 5 bv b0s.length (fl Wt.cells b0s)).In b := R0.s.ne (i := 1) (j := 0) (a := aMs out) rfl rfl (by omega) ⟨m, hm, wOf_in hb⟩
      exact hne
    refine Rg.frame (sq' := [aW bv b0s]) R0 (Upd.refl (fun _ => False) _) (fun _ _ h => h.elim) ⟨⟨ho, ho.rd, hs, hap⟩, by simp, trivial⟩ fun c hc b hb => .inl ?_
    rw [List.mem_singleton.1 hc] at hb
    rcases hb with hb | ⟨x, hx, hb⟩
    · exact ⟨_, List.mem_cons_self, hb⟩
    · rw [hb0s] at hx
      obtain ⟨m, hm, rfl⟩ := List.mem_map.1 hx
      exact ⟨aMs out, by simp, m, hm, wOf_in hb⟩
  clear R hpw
  have loB : ∀ x ∈ b0s, x.Lo := fun x hx => by
    rw [hb0s] at hx
    obtain ⟨m, hm, rfl⟩ := List.mem_map.1 hx
    exact loOut m hm
  have bsl := (show (aW bv b0s).P w30 from R31.nth (i := 0) rfl).1.slice
  obtain ⟨ba, bc, rfl⟩ := bsl
  (repeat (first | refine swp_seq ?_ | refine swp_block ?_)); refine swp_region (by kernel_rfl) ?_
  repeat (first | refine x_move (by rfl) ?_ | refine x_as (by rfl) (by rfl) ?_ | refine x_skip (by rfl) ?_ | refine x_fld (by rfl) (by rfl) FldO.h ?_ | refine x_nilck (by rfl) (by rfl) ?_ | refine x_len (by rfl) (by rfl) ElOf.some ?_ | refine x_ext (by rfl) (by rfl) (by rfl) ?_ | refine x_pickT (by rfl) (by rfl) (by rfl) ?_ | refine x_pickF (by rfl) (by rfl) (by rfl) ?_ | refine x_add (by rfl) (by rfl) (by rfl) (by omega) ?_ | refine x_sub (by rfl) (by rfl) (by rfl) (by omega) ?_ | refine x_not (by rfl) (by rfl) ?_)
  refine w_call (by rfl) (by rfl) (by rfl) (roomy_ (show (aW (.slice ba b0s.length bc) b0s).P w30 from R31.nth (i := 0) rfl).2 loB (by omega)) ?_
  rintro _ w31 ⟨rfl, r31, u31⟩
  have R32 : Rg w w31 [aW (.slice ba b0s.length bc) b0s, aOwn 29 4 (.slice aa ms.length ac) ms.length (fl Mt.cells ms), aW (.slice ga xg.length gc) xg, aW vt xt] := R31.turn (i := 0) rfl u31 rfl r31 fun _ h => h
  repeat (first | refine x_move (by rfl) ?_ | refine x_as (by rfl) (by rfl) ?_ | refine x_skip (by rfl) ?_ | refine x_fld (by rfl) (by rfl) FldO.h ?_ | refine x_nilck (by rfl) (by rfl) ?_ | refine x_len (by rfl) (by rfl) ElOf.some ?_ | refine x_ext (by rfl) (by rfl) (by rfl) ?_ | refine x_pickT (by rfl) (by rfl) (by rfl) ?_ | refine x_pickF (by rfl) (by rfl) (by rfl) ?_ | refine x_add (by rfl) (by rfl) (by rfl) (by omega) ?_ | refine x_sub (by rfl) (by rfl) (by rfl) (by omega) ?_ | refine x_not (by rfl) (by rfl) ?_)
  refine x_nilw ?_
  clear R31 r31 u31
  (repeat (first | refine swp_seq ?_ | refine swp_block ?_))
  refine swp_false (by rfl) (swp_skip ?_)
  (repeat (first | with_reducible refine n_then ?_ | with_reducible refine n_block ?_ | with_reducible refine n_jump ?_))
  (repeat (first | refine swp_seq ?_ | refine swp_block ?_)); refine swp_region (by kernel_rfl) ?_
  repeat (first | refine x_move (by rfl) ?_ | refine x_as (by rfl) (by rfl) ?_ | refine x_skip (by rfl) ?_ | refine x_fld (by rfl) (by rfl) FldO.h ?_ | refine x_nilck (by rfl) (by rfl) ?_ | refine x_len (by rfl) (by rfl) ElOf.some ?_ | refine x_ext (by rfl) (by rfl) (by rfl) ?_ | refine x_pickT (by rfl) (by rfl) (by rfl) ?_ | refine x_pickF (by rfl) (by rfl) (by rfl) ?_ | refine x_add (by rfl) (by rfl) (by rfl) (by omega) ?_ | refine x_sub (by rfl) (by rfl) (by rfl) (by omega) ?_ | refine x_not (by rfl) (by rfl) ?_)
  refine w_call (by rfl) (by rfl) (by rfl) (copiedO (show (aW (.slice ba b0s.length bc) b0s).P w31 from R32.nth (i := 0) rfl).2.rl (by omega)) ?_
  rintro wv w32 ⟨zs0, hWz, hsz0, u32⟩
  repeat (first | refine x_move (by rfl) ?_ | refine x_as (by rfl) (by rfl) ?_ | refine x_skip (by rfl) ?_ | refine x_fld (by rfl) (by rfl) FldO.h ?_ | refine x_nilck (by rfl) (by rfl) ?_ | refine x_len (by rfl) (by rfl) ElOf.some ?_ | refine x_ext (by rfl) (by rfl) (by rfl) ?_ | refine x_pickT (by rfl) (by rfl) (by rfl) ?_ | refine x_pickF (by rfl) (by rfl) (by rfl) ?_ | refine x_add (by rfl) (by rfl) (by rfl) (by omega) ?_ | refine x_sub (by rfl) (by rfl) (by rfl) (by omega) ?_ | refine x_not (by rfl) (by rfl) ?_)
  refine x_nilw ?_
  have R33 := R32.list hWz u32
  have lz0 := len_says hsz0
  have R34 : Rg w w32 [aV wv zs0, aW (.slice ba b0s.length bc) b0s, aOwn 29 4 (.slice aa ms.length ac) ms.length (fl Mt.cells ms), aW (.slice ga xg.length gc) xg, aW vt xt] := R33.upd (i := 0) (a' := aV wv zs0) rfl (Upd.refl (fun _ => False) _) (fun _ _ h => h.elim) (aW.aV (R33.nth (i := 0) rfl)) fun b hb => .inl hb
  have wsl := hWz.own.slice
  rw [lz0] at wsl
  obtain ⟨wa, wc, rfl⟩ := wsl
  clear R32 R33 hWz u32
  refine swp_fit [(17, vt), (19, .slice ga xg.length gc), (20, .slice aa ms.length ac), (23, .slice ba b0s.length bc), (25, .slice wa b0s.length wc)] ⟨rfl, rfl, rfl, rfl, rfl, trivial⟩ fun ρ => ?_
  (repeat (first | refine swp_seq ?_ | refine swp_block ?_)); refine swp_region (by kernel_rfl) ?_
  repeat (first | refine x_move (by rfl) ?_ | refine x_as (by rfl) (by rfl) ?_ | refine x_skip (by rfl) ?_ | refine x_fld (by rfl) (by rfl) FldO.h ?_ | refine x_nilck (by rfl) (by rfl) ?_ | refine x_len (by rfl) (by rfl) ElOf.some ?_ | refine x_ext (by rfl) (by rfl) (by rfl) ?_ | refine x_pickT (by rfl) (by rfl) (by rfl) ?_ | refine x_pickF (by rfl) (by rfl) (by rfl) ?_ | refine x_add (by rfl) (by rfl) (by rfl) (by omega) ?_ | refine x_sub (by rfl) (by rfl) (by rfl) (by omega) ?_ | refine x_not (by rfl) (by rfl) ?_)
  refine x_nilw ?_
  (repeat (first | refine swp_seq ?_ | refine swp_block ?_))
  refine swp_loop (fun (i : Nat) σ w' => ∃ bs zs, At σ [(17, vt), (19, .slice ga xg.length gc), (20, .slice aa ms.length ac), (23, .slice ba b0s.length bc), (25, .slice wa b0s.length wc), (26, .int .i64 (i : Nat))] ∧ i ≤ b0s.length ∧ bs.length = b0s.length ∧ (∀ x ∈ bs, x.Lo ∧ x = wOf x.m) ∧ zs.map Wt.says = bs.map Wt.says ∧ Rg w w' [aV (.slice wa b0s.length wc) zs, aW (.slice ba b0s.length bc) bs, aOwn 29 4 (.slice aa ms.length ac) ms.length (fl Mt.cells ms), aW (.slice ga xg.length gc) xg, aW vt xt]) (fun i => b0s.length - i) 0 ⟨b0s, zs0, at_ ⟨rfl, rfl, rfl, rfl, rfl, rfl, trivial⟩, by omega, rfl, fun x hx => ⟨loB x hx, by
    rw [hb0s] at hx
    obtain ⟨m, hm, rfl⟩ := List.mem_map.1 hx
    rfl⟩, hsz0, R34⟩ ?_
  clear R34 hsz0 lz0
  rintro i σ w33 ⟨bs, zs, ⟨ρ, rfl⟩, hi, hbl, hbs, hzs, R⟩
  have lz := len_says hzs
  (repeat (first | refine swp_seq ?_ | refine swp_block ?_)); refine swp_region (by kernel_rfl) ?_
  repeat (first | refine x_move (by rfl) ?_ | refine x_as (by rfl) (by rfl) ?_ | refine x_skip (by rfl) ?_ | refine x_fld (by rfl) (by rfl) FldO.h ?_ | refine w_load (by rfl) (by rfl) (load_one OneT.h (by assumption) (by rfl)) ?_ | refine x_nilck (by rfl) (by rfl) ?_ | refine x_len (by rfl) (by rfl) ElOf.some ?_ | refine x_iface (by rfl) (by rfl) NIf.h ?_ | refine x_ext (by rfl) (by rfl) (by rfl) ?_ | refine x_pickT (by rfl) (by rfl) (by rfl) ?_ | refine x_pickF (by rfl) (by rfl) (by rfl) ?_ | refine x_add (by rfl) (by rfl) (by rfl) (by omega) ?_ | refine x_sub (by rfl) (by rfl) (by rfl) (by omega) ?_ | refine x_lss (by rfl) (by rfl) (by rfl) ?_ | refine x_geq (by rfl) (by rfl) (by rfl) ?_ | refine x_leq (by rfl) (by rfl) (by rfl) ?_ | refine x_gtr (by rfl) (by rfl) (by rfl) ?_ | refine x_eql (by rfl) (by rfl) (by rfl) ?_ | refine x_neq (by rfl) (by rfl) (by rfl) ?_ | refine x_not (by rfl) (by rfl) ?_)
  refine x_nilw ?_
  (repeat (first | refine swp_seq ?_ | refine swp_block ?_))
  refine swp_if (by rfl) (fun hc => swp_skip ?_) (fun hc => ?_)
  · have hi' : i < b0s.length := by omega
    have hxe := nthE (L := bs) (i := i) (by omega)
    obtain ⟨x, hxi⟩ := hxe
    have hxm := List.mem_of_getElem? hxi
    obtain ⟨loX, hxw⟩ := hbs x hxm
    have pB := show (aW (.slice ba b0s.length bc) bs).P w33 from R.nth (i := 1) rfl
    have ob := pB.1
    rw [hbl] at ob
    have hpo := ob.pos (by omega)
    obtain ⟨g, cap, R', hVe, -, hc1, -, -⟩ := hpo
    simp only [Value.slice.injEq] at hVe
    obtain ⟨rfl, _, rfl⟩ := hVe
    have pZ := show (aV (.slice wa b0s.length wc) zs).P w33 from R.nth (i := 0) rfl
    have oz := pZ.1
    rw [lz, hbl] at oz
    have hpz := oz.pos (by omega)
    obtain ⟨gz, capz, Rz, hVz, -, -, -, -⟩ := hpz
    simp only [Value.slice.injEq] at hVz
    obtain ⟨rfl, _, rfl⟩ := hVz
    clear ob oz pZ
    (repeat (first | with_reducible refine n_then ?_ | with_reducible refine n_block ?_ | with_reducible refine n_jump ?_))
    (repeat (first | refine swp_seq ?_ | refine swp_block ?_)); refine swp_region (by kernel_rfl) ?_
    repeat (first | refine x_move (by rfl) ?_ | refine x_as (by rfl) (by rfl) ?_ | refine x_skip (by rfl) ?_ | refine x_fld (by rfl) (by rfl) FldO.h ?_ | refine x_nilck (by rfl) (by rfl) ?_ | refine x_len (by rfl) (by rfl) ElOf.some ?_ | refine x_ext (by rfl) (by rfl) (by rfl) ?_ | refine x_pickT (by rfl) (by rfl) (by rfl) ?_ | refine x_pickF (by rfl) (by rfl) (by rfl) ?_ | refine x_add (by rfl) (by rfl) (by rfl) (by omega) ?_ | refine x_sub (by rfl) (by rfl) (by rfl) (by omega) ?_ | refine x_not (by rfl) (by rfl) ?_)
    refine x_cut1 i (by rfl) (by rfl) (by rfl) (by rfl) ElSz.h (by rfl) (i + 1) rfl (by rfl) hi' hc1 ?_
    repeat (first | refine x_move (by rfl) ?_ | refine x_as (by rfl) (by rfl) ?_ | refine x_skip (by rfl) ?_ | refine x_fld (by rfl) (by rfl) FldO.h ?_ | refine x_nilck (by rfl) (by rfl) ?_ | refine x_len (by rfl) (by rfl) ElOf.some ?_ | refine x_ext (by rfl) (by rfl) (by rfl) ?_ | refine x_pickT (by rfl) (by rfl) (by rfl) ?_ | refine x_pickF (by rfl) (by rfl) (by rfl) ?_ | refine x_add (by rfl) (by rfl) (by rfl) (by omega) ?_ | refine x_sub (by rfl) (by rfl) (by rfl) (by omega) ?_ | refine x_not (by rfl) (by rfl) ?_)
    refine w_call (by rfl) (by rfl) (by rfl) (spoil_ (5 + i) (sub_rw (c' := bc - i) pB.2 hbl hxi) (fun y hy => by rw [List.mem_singleton.1 hy]; exact loX) (by simp) (by omega)) ?_
    rintro _ w34 ⟨u34, hm'⟩
    refine x_nilw ?_
    have hm1 := hm' x (by simp)
    obtain ⟨m', hmc, hmo⟩ := hm1
    have hyc : (wOf m').cells = x.cells := by rw [wOf_cells hmc, ← hxw]
    have hcm : (bs.set i (wOf m')).map Wt.cells = bs.map Wt.cells := by rw [List.map_set, hyc]; exact set_same (by rw [List.getElem?_map, hxi]; rfl)
    have hfx : ∀ b, feet [x] b → x.as.In b := fun b ⟨y, hy, hb⟩ => by rw [List.mem_singleton.1 hy] at hb; exact hb
    have hyin : ∀ b, (wOf m').as.In b → x.as.In b := fun b hb => m_in (at_same hmc (wOf_in hb))
    have r34 : Rw w34 (.slice (some ⟨g, 0, none⟩) b0s.length bc) (bs.set i (wOf m')) := pB.2.set hxi hyc u34 (fun b _ hb => hfx b hb) (wOf_P hmo) hyin
    have R34 : Rg w w34 [aV (.slice (some ⟨gz, 0, none⟩) b0s.length wc) zs, aW (.slice (some ⟨g, 0, none⟩) b0s.length bc) (bs.set i (wOf m')), aOwn 29 4 (.slice aa ms.length ac) ms.length (fl Mt.cells ms), aW (.slice ga xg.length gc) xg, aW vt xt] := R.turn (i := 1) rfl (u34.mono fun b hb => ⟨x, hxm, hfx b hb⟩) hcm r34 fun b ⟨y, hy, hb⟩ => by
      rcases List.mem_or_eq_of_mem_set hy with hy | rfl
      · exact ⟨y, hy, hb⟩
      · exact ⟨x, hxm, hyin b hb⟩
    have hbl2 : (bs.set i (wOf m')).length = b0s.length := by rw [List.length_set]; exact hbl
    have hyi : (bs.set i (wOf m'))[i]? = some (wOf m') := by rw [List.getElem?_set_self (by omega)]
    have hbs2 : ∀ x ∈ bs.set i (wOf m'), x.Lo ∧ x = wOf x.m := fun y hy => by
      rcases List.mem_or_eq_of_mem_set hy with hy | rfl
      · exact hbs y hy
      · exact ⟨lo_cells hmc loX, rfl⟩
    clear R pB u34 hm' hcm hfx hyin
    (repeat (first | refine swp_seq ?_ | refine swp_block ?_)); refine swp_region (by kernel_rfl) ?_
    repeat (first | refine x_move (by rfl) ?_ | refine x_as (by rfl) (by rfl) ?_ | refine x_skip (by rfl) ?_ | refine x_fld (by rfl) (by rfl) FldO.h ?_ | refine x_nilck (by rfl) (by rfl) ?_ | refine x_len (by rfl) (by rfl) ElOf.some ?_ | refine x_ext (by rfl) (by rfl) (by rfl) ?_ | refine x_pickT (by rfl) (by rfl) (by rfl) ?_ | refine x_pickF (by rfl) (by rfl) (by rfl) ?_ | refine x_add (by rfl) (by rfl) (by rfl) (by omega) ?_ | refine x_sub (by rfl) (by rfl) (by rfl) (by omega) ?_ | refine x_not (by rfl) (by rfl) ?_)
    refine x_cut1 i (by rfl) (by rfl) (by rfl) (by rfl) ElSz.h (by rfl) (i + 1) rfl (by rfl) hi' hc1 ?_
    refine w_call (by rfl) (by rfl) (by rfl) (copiedO (sub_rw (c' := bc - i) r34 hbl2 hyi).rl (by simp)) ?_
    rintro vc w35 ⟨cs, hWc, hsc, u35⟩
    have R35 := R34.list hWc u35
    have lc := len_says hsc
    have hc1' := List.length_eq_one_iff.1 (show cs.length = 1 from lc)
    obtain ⟨z, rfl⟩ := hc1'
    have hzy : z.says = (wOf m').says := by simpa using hsc
    have oc := hWc.own
    have hpc := oc.pos (by simp)
    obtain ⟨gk, capk, Rk, rfl, -, -, -, -⟩ := hpc
    replace R35 : Rg w w35 [aW (.slice (some ⟨gk, 0, none⟩) [z].length capk) [z], aV (.slice (some ⟨gz, 0, none⟩) b0s.length wc) zs, aW (.slice (some ⟨g, 0, none⟩) b0s.length bc) (bs.set i (wOf m')), aOwn 29 4 (.slice aa ms.length ac) ms.length (fl Mt.cells ms), aW (.slice ga xg.length gc) xg, aW vt xt] := R35
    refine x_idx 0 (by rfl) (by rfl) (by rfl) ElSz.h rfl (by simp) ?_
    refine w_load (by rfl) (by rfl) (rd_load wt_len AggT.h oc.rd (i := 0) (x := z) rfl rfl rfl) ?_
    refine x_idx i (by rfl) (by rfl) (by rfl) ElSz.h rfl hi' ?_
    have pZ := show (aV (.slice (some ⟨gz, 0, none⟩) b0s.length wc) zs).P w35 from R35.nth (i := 1) rfl
    have pC := show (aW (.slice (some ⟨gk, 0, none⟩) [z].length capk) [z]).P w35 from R35.nth (i := 0) rfl
    have lz2 : zs.length = b0s.length := by omega
    have oz := pZ.1
    rw [lz2] at oz
    have hpz := oz.pos (by omega)
    obtain ⟨g2, cap2, R2, hV2, hgb, hd1, hd2, hd3⟩ := hpz
    simp only [Value.slice.injEq, Option.some.injEq, Addr.mk.injEq, and_true, true_and] at hV2
    obtain ⟨rfl, rfl⟩ := hV2
    have hfl : (fl Wt.cells zs).length = b0s.length * 5 := by rw [fl_length wt_len, lz2]
    refine w_store (xs := z.cells) (by rfl) (by rfl) (by rfl) (by rfl) SzT.h (by rfl) (by rfl) hgb (by rw [List.length_append, hfl]; omega) ?_
    intro w36 u36 hb36 _
    refine x_nilw ?_
    have own36 := own_set (i := i) (x := z) (V := .slice (some ⟨gz, 0, none⟩) b0s.length wc) rfl wt_len hb36 lz2 hi' (by omega) hd1 hd2 hd3
    have hzn : ∀ b, z.as.In b → ¬isIn (.slice (some ⟨gz, 0, none⟩) b0s.length wc) b := fun b hb hf =>
      R35.s.ne (i := 0) (j := 1) (a := aW (.slice (some ⟨gk, 0, none⟩) [z].length capk) [z]) (c := aV (.slice (some ⟨gz, 0, none⟩) b0s.length wc) zs) rfl rfl (by omega) (.inr ⟨z, by simp, hb⟩) (.inl hf)
    have hap36 : ∀ y ∈ zs.set i z, ∀ b, y.as.In b → ¬isIn (.slice (some ⟨gz, 0, none⟩) b0s.length wc) b := fun y hy => by
      rcases List.mem_or_eq_of_mem_set hy with hy | rfl
      · exact pZ.2.2 y hy
      · exact hzn
    have hP36 : ∀ y ∈ zs.set i z, y.as.P w36 := fun y hy => by
      have hp : y.as.P w35 := by
        rcases List.mem_or_eq_of_mem_set hy with hy | rfl
        · exact pZ.2.1 y hy
        · exact pC.2.item (by simp)
      exact As.get y.as hp u36 fun b hb e => hap36 y hy b hb e
    have R36 : Rg w w36 ([aV (.slice (some ⟨gz, 0, none⟩) b0s.length wc) (zs.set i z)] ++ [aW (.slice (some ⟨g, 0, none⟩) b0s.length bc) (bs.set i (wOf m')), aOwn 29 4 (.slice aa ms.length ac) ms.length (fl Mt.cells ms), aW (.slice ga xg.length gc) xg, aW vt xt]) := by
      refine Rg.frame (sq := [aW (.slice (some ⟨gk, 0, none⟩) [z].length capk) [z], aV (.slice (some ⟨gz, 0, none⟩) b0s.length wc) zs]) R35 u36 (fun b _ e => ⟨aV (.slice (some ⟨gz, 0, none⟩) b0s.length wc) zs, by simp, Or.inl (show isIn (.slice (some ⟨gz, 0, none⟩) b0s.length wc) b from e)⟩) ⟨⟨by rw [List.length_set, lz2]; exact own36, hP36, hap36⟩, by simp, trivial⟩ fun c hc b hb => .inl ?_
      rw [List.mem_singleton.1 hc] at hb
      rcases hb with hb | ⟨y, hy, hb⟩
      · exact ⟨aV (.slice (some ⟨gz, 0, none⟩) b0s.length wc) zs, by simp, .inl hb⟩
      · rcases List.mem_or_eq_of_mem_set hy with hy | rfl
        · exact ⟨aV (.slice (some ⟨gz, 0, none⟩) b0s.length wc) zs, by simp, .inr ⟨y, hy, hb⟩⟩
        · exact ⟨aW (.slice (some ⟨gk, 0, none⟩) [y].length capk) [y], by simp, .inr ⟨y, by simp, hb⟩⟩
    replace R36 : Rg w w36 [aV (.slice (some ⟨gz, 0, none⟩) b0s.length wc) (zs.set i z), aW (.slice (some ⟨g, 0, none⟩) b0s.length bc) (bs.set i (wOf m')), aOwn 29 4 (.slice aa ms.length ac) ms.length (fl Mt.cells ms), aW (.slice ga xg.length gc) xg, aW vt xt] := R36
    have hsay : (zs.set i z).map Wt.says = (bs.set i (wOf m')).map Wt.says := by rw [List.map_set, List.map_set, hzs, hzy]
    clear R34 R35 pZ pC oc hWc u35 u36 own36 hP36 hap36 hzn hgb hb36 r34
    (repeat (first | refine swp_seq ?_ | refine swp_block ?_)); refine swp_region (by kernel_rfl) ?_
    repeat (first | refine x_move (by rfl) ?_ | refine x_as (by rfl) (by rfl) ?_ | refine x_skip (by rfl) ?_ | refine x_fld (by rfl) (by rfl) FldO.h ?_)
    refine w_call (by rfl) (by rfl) (by rfl) (same_all (show (aW (.slice (some ⟨g, 0, none⟩) b0s.length bc) (bs.set i (wOf m'))).P w36 from R36.nth (i := 1) rfl).2.rl (aV.rl (R36.nth (i := 0) rfl)) hsay.symm (by omega)) ?_
    rintro _ w37 ⟨rfl, u37⟩
    repeat (first | refine x_move (by rfl) ?_ | refine x_as (by rfl) (by rfl) ?_ | refine x_skip (by rfl) ?_ | refine x_fld (by rfl) (by rfl) FldO.h ?_ | refine x_nilck (by rfl) (by rfl) ?_ | refine x_len (by rfl) (by rfl) ElOf.some ?_ | refine x_ext (by rfl) (by rfl) (by rfl) ?_ | refine x_pickT (by rfl) (by rfl) (by rfl) ?_ | refine x_pickF (by rfl) (by rfl) (by rfl) ?_ | refine x_add (by rfl) (by rfl) (by rfl) (by omega) ?_ | refine x_sub (by rfl) (by rfl) (by rfl) (by omega) ?_ | refine x_not (by rfl) (by rfl) ?_)
    refine x_nilw ?_
    (repeat (first | refine swp_seq ?_ | refine swp_block ?_))
    refine swp_false (by rfl) (swp_skip ?_)
    (repeat (first | with_reducible refine n_then ?_ | with_reducible refine n_block ?_ | with_reducible refine n_jump ?_))
    (repeat (first | refine swp_seq ?_ | refine swp_block ?_)); refine swp_region (by kernel_rfl) ?_
    repeat (first | refine x_move (by rfl) ?_ | refine x_as (by rfl) (by rfl) ?_ | refine x_len (by rfl) (by rfl) ElOf.some ?_ | refine x_add (by rfl) (by rfl) (by rfl) (by omega) ?_ | refine x_lss (by rfl) (by rfl) (by rfl) ?_)
    refine x_nilw ?_
    exact ⟨i + 1, ⟨_, _, at_ ⟨rfl, rfl, rfl, rfl, rfl, rfl, trivial⟩, hi', hbl2, hbs2, hsay, R36.ext u37⟩, by omega⟩
  · refine swp_exit ?_; (repeat (first | with_reducible refine e_then ?_ | with_reducible refine e_jump ?_)); refine e_block ?_; (repeat (first | with_reducible refine n_then ?_ | with_reducible refine n_block ?_ | with_reducible refine n_jump ?_))
    have R40 : Rg w w33 [aOwn 29 4 (.slice aa ms.length ac) ms.length (fl Mt.cells ms), aW (.slice ga xg.length gc) xg, aW vt xt] := R.tail.tail
    have tsl := (show (aW vt xt).P w33 from R40.nth (i := 2) rfl).1.slice
    obtain ⟨ta, tc, rfl⟩ := tsl
    have ra := (show Own w33 29 4 (.slice aa ms.length ac) ms.length (fl Mt.cells ms) from R40.nth (i := 0) rfl).rd
    have pG := show (aW (.slice ga xg.length gc) xg).P w33 from R40.nth (i := 1) rfl
    have pT := show (aW (.slice ta xt.length tc) xt).P w33 from R40.nth (i := 2) rfl
    have rt := pT.2.rd
    have u040 := R40.u
    clear R R40
    refine swp_fit [(17, .slice ta xt.length tc), (19, .slice ga xg.length gc), (20, .slice aa ms.length ac)] ⟨rfl, rfl, rfl, trivial⟩ fun ρ => ?_
    (repeat (first | refine swp_seq ?_ | refine swp_block ?_)); refine swp_region (by kernel_rfl) ?_
    repeat (first | refine x_move (by rfl) ?_ | refine x_as (by rfl) (by rfl) ?_ | refine x_skip (by rfl) ?_ | refine x_fld (by rfl) (by rfl) FldO.h ?_)
    refine x_nilw ?_
    (repeat (first | refine swp_seq ?_ | refine swp_block ?_))
    refine swp_loop (fun (i : Nat) σ w' => At σ [(17, .slice ta xt.length tc), (19, .slice ga xg.length gc), (20, .slice aa ms.length ac), (27, .int .i64 (i : Nat))] ∧ i ≤ xg.length ∧ Ext w33 w') (fun i => xg.length - i) 0 ⟨at_ ⟨rfl, rfl, rfl, rfl, trivial⟩, by omega, Upd.refl _ _⟩ ?_
    clear hc
    rintro i σ w34 ⟨⟨ρ, rfl⟩, hi, u34⟩
    (repeat (first | refine swp_seq ?_ | refine swp_block ?_)); refine swp_region (by kernel_rfl) ?_
    repeat (first | refine x_move (by rfl) ?_ | refine x_as (by rfl) (by rfl) ?_ | refine x_len (by rfl) (by rfl) ElOf.some ?_ | refine x_add (by rfl) (by rfl) (by rfl) (by omega) ?_ | refine x_lss (by rfl) (by rfl) (by rfl) ?_)
    refine x_nilw ?_
    (repeat (first | refine swp_seq ?_ | refine swp_block ?_))
    refine swp_if (by rfl) (fun hc => swp_skip ?_) (fun hc => ?_)
    · have hi' : i < xg.length := by omega
      have hxe := nthE hi'
      obtain ⟨x, hxi⟩ := hxe
      have hye := nthE (L := xt) (i := i) (by omega)
      obtain ⟨y, hyi⟩ := hye
      have hmi : ms[i]? = some x.m := by rw [hms, List.getElem?_map, hxi]; rfl
      have hsx : x.says = y.says := by
        have h1 : (xg.map Wt.says)[i]? = some x.says := by rw [List.getElem?_map, hxi]; rfl
        have h2 : (xt.map Wt.says)[i]? = some y.says := by rw [List.getElem?_map, hyi]; rfl
        rw [htg, h1] at h2
        exact Option.some.inj h2
      have hpa := ra.pos (by omega)
      obtain ⟨pa, po, pd, hpe, -, -⟩ := hpa
      simp only [Value.slice.injEq] at hpe
      obtain ⟨rfl, _, rfl⟩ := hpe
      have hpt := rt.pos (by omega)
      obtain ⟨qa, qo, qd, hqe, -, -⟩ := hpt
      simp only [Value.slice.injEq] at hqe
      obtain ⟨rfl, _, rfl⟩ := hqe
      have hxR := (Wt.rdy_of (pG.2.item (List.mem_of_getElem? hxi))).m.at u34
      have hyR := (Wt.rdy_of (pT.2.item (List.mem_of_getElem? hyi))).m.at u34
      (repeat (first | with_reducible refine n_then ?_ | with_reducible refine n_block ?_ | with_reducible refine n_jump ?_))
      (repeat (first | refine swp_seq ?_ | refine swp_block ?_))
      (repeat (first | refine swp_seq ?_ | refine swp_block ?_)); refine swp_draw (Ext w34) [] Mixed.h (by kernel_rfl) (by kernel_rfl) (ext_drew w34) ?_
      repeat (first | refine x_move (by rfl) ?_ | refine x_as (by rfl) (by rfl) ?_ | refine x_skip (by rfl) ?_ | refine x_fld (by rfl) (by rfl) FldO.h ?_)
      refine x_idx i (by rfl) (by rfl) (by rfl) ElSz.h rfl (by omega) ?_
      refine q_load (by rfl) (by rfl) (by rfl) (fun w' hw' => rd_load mt_len AggT.h ((ra.at u34).at hw') hmi rfl rfl) ?_
      repeat (first | refine x_move (by rfl) ?_ | refine x_as (by rfl) (by rfl) ?_ | refine x_skip (by rfl) ?_ | refine x_fld (by rfl) (by rfl) FldO.h ?_)
      refine x_idx i (by rfl) (by rfl) (by rfl) ElSz.h rfl (by omega) ?_
      repeat (first | refine x_move (by rfl) ?_ | refine x_as (by rfl) (by rfl) ?_ | refine x_skip (by rfl) ?_ | refine x_fld (by rfl) (by rfl) FldO.h ?_)
      refine q_load (by rfl) (by rfl) (by rfl) (fun w' hw' => load_m ((rt.at u34).at hw') hyi rfl) ?_
      refine q_call (v := .bool true) (by rfl) (by rfl) (by rfl) (fun w' hw' => (same_match x.m y.m w' (hxR.at hw') (hyR.at hw') (m_says hsx)).mono fun v w'' h => ⟨h.1, hw'.trans h.2⟩) ?_
      repeat (first | refine x_move (by rfl) ?_ | refine x_as (by rfl) (by rfl) ?_ | refine x_skip (by rfl) ?_ | refine x_fld (by rfl) (by rfl) FldO.h ?_ | refine x_nilck (by rfl) (by rfl) ?_ | refine x_len (by rfl) (by rfl) ElOf.some ?_ | refine x_ext (by rfl) (by rfl) (by rfl) ?_ | refine x_pickT (by rfl) (by rfl) (by rfl) ?_ | refine x_pickF (by rfl) (by rfl) (by rfl) ?_ | refine x_add (by rfl) (by rfl) (by rfl) (by omega) ?_ | refine x_sub (by rfl) (by rfl) (by rfl) (by omega) ?_ | refine x_not (by rfl) (by rfl) ?_)
      refine x_nil fun w35 u35 => ?_
      (repeat (first | refine swp_seq ?_ | refine swp_block ?_))
      refine swp_false (by rfl) (swp_skip ?_)
      (repeat (first | with_reducible refine n_then ?_ | with_reducible refine n_block ?_ | with_reducible refine n_jump ?_))
      (repeat (first | refine swp_seq ?_ | refine swp_block ?_)); refine swp_region (by kernel_rfl) ?_
      repeat (first | refine x_move (by rfl) ?_ | refine x_as (by rfl) (by rfl) ?_ | refine x_len (by rfl) (by rfl) ElOf.some ?_ | refine x_add (by rfl) (by rfl) (by rfl) (by omega) ?_ | refine x_lss (by rfl) (by rfl) (by rfl) ?_)
      refine x_nilw ?_
      exact ⟨i + 1, ⟨at_ ⟨rfl, rfl, rfl, rfl, trivial⟩, hi', u34.trans u35⟩, by omega⟩
    · refine swp_exit ?_; (repeat (first | with_reducible refine e_then ?_ | with_reducible refine e_jump ?_)); refine e_block ?_; (repeat (first | with_reducible refine n_then ?_ | with_reducible refine n_block ?_ | with_reducible refine n_jump ?_))
      (repeat (first | refine swp_seq ?_ | refine swp_block ?_)); refine swp_region (by kernel_rfl) ?_
      repeat (first | refine x_move (by rfl) ?_ | refine x_as (by rfl) (by rfl) ?_ | refine x_skip (by rfl) ?_ | refine x_fld (by rfl) (by rfl) FldO.h ?_)
      refine x_nilw ?_
      refine swp_ret ?_; (repeat (first | with_reducible refine r_then ?_ | with_reducible refine r_block ?_ | with_reducible refine r_jump ?_))
      exact post1 rfl rfl ⟨_, rfl, rfl, u040.trans u34⟩
end Go.Proofs.Ytpnigekkbmanlaa
