/- spoil: it turns only what the list holds. Conditions: few things. -/
import Derived.Test.YtpnigekkbmanlaaKh
namespace Go.Proofs.Ytpnigekkbmanlaa
open Sx Hp
section
variable {dr : Bool} {P : Program} {ops : Array Oper} {W : List Nat} {Q : Fr → World → Prop} {k : Nat} {rest : List Oper} {σ : Fr} {C : World → Prop} {d : Nat} {ty : TypeId} {pos : String} {after : Array Edge} {guard : Option (Nat × Bool)}
theorem x_convU {t t' : TypeId} {n : Int} {x : Operand} (hs : (P.underlying t).isSome = true) (hd : P.underlying t' = some (.int .u64)) (hw : wantS ops σ ⟨some d, .convert t t' x, ty, pos, after, guard⟩ = true) (hx : ev σ x = .int .i64 n) (hb : 0 ≤ n ∧ n ≤ 9223372036854775807)
    (h : xw dr P ops W Q (k + 1) rest (upd σ d (.int .u64 n)) C) : xw dr P ops W Q k (⟨some d, .convert t t' x, ty, pos, after, guard⟩ :: rest) σ C :=
  x_p hw rfl (fun w => by
    have hk : P.intKind t' = .u64 := by simp [Program.intKind, hd]
    have hr := run_convert_int w t t' .i64 n hs (by rw [hk]; exact hd)
    rw [hk, IntWalk.u64_in _ (show 0 ≤ n ∧ n ≤ 18446744073709551615 by omega)] at hr
    simp only [execOp, hx, Sem.run_bind, hr, Result.andThen_ok, Sem.run_pure]) h
end
def nnOf (mark i : Nat) : Int := 1000 + 10 * (mark : Int) + (i : Int)
theorem own_beyond {w' : World} {e k g cap n o : Nat} {xs R : List Value} {v : Value} (hb : Blk w' g e (put1 (xs ++ R) o [v])) (hx : xs.length = n * k) (ho : n * k ≤ o) (ho2 : o + 1 ≤ (xs ++ R).length) (h1 : n ≤ cap) (h2 : cap ≤ maxLen) (h3 : (xs ++ R).length = cap * k) : Own w' e k (.slice (some ⟨g, 0, none⟩) n cap) n xs := by
  have e1 : put1 (xs ++ R) o [v] = xs ++ put1 R (o - xs.length) [v] := by
    unfold put1
    rw [List.take_append, List.take_of_length_le (by omega), List.drop_append, List.drop_eq_nil_of_le (by simp; omega), List.nil_append]
    simp only [List.append_assoc, List.length_singleton]
    congr 4
    omega
  rw [e1] at hb
  refine Own.of (rest := put1 R (o - xs.length) [v]) hx hb h1 h2 ?_
  rw [List.length_append] at h3 ho2 ⊢
  unfold put1
  simp only [List.length_append, List.length_take, List.length_drop, List.length_singleton]
  omega

set_option maxHeartbeats 16000000 in
set_option maxRecDepth 100000 in
theorem spoil_ {w : World} {sv : Value} {xs : List Wt} (mark : Nat) (h : Rw w sv xs) (hx : ∀ x ∈ xs, x.Lo) (hl : xs.length ≤ 1048576) (hmk : mark ≤ 2000000) : Gets Try.prog 36 [sv, .int .i64 (mark : Nat)] w fun _ w' => Upd (feet xs) w w' ∧ ∀ x ∈ xs, ∃ m' : Mt, m'.cells = x.m.cells ∧ m'.Own w' := by
  have hsl := h.rd.slice
  obtain ⟨a0, c0, rfl⟩ := hsl
  have hD : ∀ (i j : Nat) (x y : Wt), i ≠ j → xs[i]? = some x → xs[j]? = some y → ∀ b, x.as.In b → ¬y.as.In b := fun i j x y hij hi hj b hb =>
    h.s.ne (i := i) (j := j) (by rw [List.getElem?_map, hi]; rfl) (by rw [List.getElem?_map, hj]; rfl) hij hb
  have hrdv : ∀ {w' : World}, Upd (feet xs) w w' → Rd w' 5 (.slice a0 xs.length c0) xs.length (fl Wt.cells xs) := fun u => h.rd.get u fun b hb ⟨x, hx, hf⟩ => h.ap x hx b hf hb
  refine ⟨GoFn.h, calls_of_swp 168 Try.func36 Try.ntmps36 rfl (Nat.le_of_ble_eq_true rfl) ?_⟩
  (repeat (first | refine swp_seq ?_ | refine swp_block ?_)); refine swp_region (by kernel_rfl) ?_
  repeat (first | refine x_move (by rfl) ?_ | refine x_as (by rfl) (by rfl) ?_ | refine x_skip (by rfl) ?_ | refine x_fld (by rfl) (by rfl) FldO.h ?_)
  refine x_nilw ?_
  refine swp_fit [(0, .slice a0 xs.length c0), (1, .int .i64 (mark : Nat)), (4, .int .i64 ((0 : Nat) : Int))] ⟨rfl, rfl, rfl, trivial⟩ fun ρ => ?_
  (repeat (first | refine swp_seq ?_ | refine swp_block ?_))
  refine swp_loop (fun (i : Nat) σ w' => At σ [(0, .slice a0 xs.length c0), (1, .int .i64 (mark : Nat)), (4, .int .i64 (i : Nat))] ∧ i ≤ xs.length ∧ (∀ j x, xs[j]? = some x → i ≤ j → x.as.P w') ∧ (∀ j x, xs[j]? = some x → j < i → ∃ m' : Mt, m'.cells = x.m.cells ∧ m'.Own w') ∧ Upd (feet xs) w w') (fun i => xs.length - i) 0 ⟨at_ ⟨rfl, rfl, rfl, trivial⟩, by omega, fun j x hj _ => h.item (List.mem_of_getElem? hj), fun j x _ hj => absurd hj (by omega), Upd.refl _ _⟩ ?_
  rintro i σ w1 ⟨⟨ρ, rfl⟩, hi, hto, hdone, hu⟩
  (repeat (first | refine swp_seq ?_ | refine swp_block ?_)); refine swp_region (by kernel_rfl) ?_
  repeat (first | refine x_move (by rfl) ?_ | refine x_as (by rfl) (by rfl) ?_ | refine x_len (by rfl) (by rfl) ElOf.some ?_ | refine x_add (by rfl) (by rfl) (by rfl) (by omega) ?_ | refine x_lss (by rfl) (by rfl) (by rfl) ?_)
  refine x_nilw ?_
  (repeat (first | refine swp_seq ?_ | refine swp_block ?_))
  refine swp_if (by rfl) (fun hc => swp_skip ?_) (fun hc => ?_)
  · have hi' : i < xs.length := by omega
    have hxe := nthE hi'
    obtain ⟨x, hxi⟩ := hxe
    have hxm := List.mem_of_getElem? hxi
    have L := hx x hxm
    have Ln := L.n; have Ll := L.l; have Lv := L.v; have Lb := L.b
    have hps := h.rd.pos (by omega)
    obtain ⟨pb, po, pd, hpe, -, -⟩ := hps
    simp only [Value.slice.injEq] at hpe
    obtain ⟨rfl, _, rfl⟩ := hpe
    have hP := hto i x hxi (Nat.le_refl i)
    have hxlt : ∀ b, x.as.In b → b < w1.heap.size := fun b hb => x.as.lt hP hb
    have inN : ∀ b, isIn x.m.ns b → x.as.In b := fun b hb => ⟨_, List.mem_of_getElem? (i := 0) rfl, hb⟩
    have inL : ∀ b, isIn x.m.ls b → x.as.In b := fun b hb => ⟨_, List.mem_of_getElem? (i := 1) rfl, hb⟩
    have inV : ∀ b, isIn x.m.vs b → x.as.In b := fun b hb => ⟨_, List.mem_of_getElem? (i := 2) rfl, hb⟩
    have inB : ∀ b, isIn x.bv b → x.as.In b := fun b hb => ⟨_, List.mem_of_getElem? (i := 3) rfl, hb⟩
    have inE : ∀ e ∈ x.bs, ∀ b, isIn (.slice e.a e.evs.length e.c) b → x.as.In b := fun e he b hb => ⟨_, List.mem_of_getElem? (i := 4) rfl, e.as, List.mem_map.2 ⟨e, he, rfl⟩, hb⟩
    have inA : ∀ e ∈ x.bs, ∀ b, isIn (.slice e.a e.evs.length e.c) b → (As.all (x.bs.map El.as)).In b := fun e he b hb => ⟨e.as, List.mem_map.2 ⟨e, he, rfl⟩, hb⟩
    have dNL : ∀ b, isIn x.m.ns b → ¬isIn x.m.ls b := fun b => hP.1.ne (i := 0) (j := 1) rfl rfl (by omega)
    have dNV : ∀ b, isIn x.m.ns b → ¬isIn x.m.vs b := fun b => hP.1.ne (i := 0) (j := 2) rfl rfl (by omega)
    have dNB : ∀ b, isIn x.m.ns b → ¬isIn x.bv b := fun b => hP.1.ne (i := 0) (j := 3) rfl rfl (by omega)
    have dLV : ∀ b, isIn x.m.ls b → ¬isIn x.m.vs b := fun b => hP.1.ne (i := 1) (j := 2) rfl rfl (by omega)
    have dLB : ∀ b, isIn x.m.ls b → ¬isIn x.bv b := fun b => hP.1.ne (i := 1) (j := 3) rfl rfl (by omega)
    have dVB : ∀ b, isIn x.m.vs b → ¬isIn x.bv b := fun b => hP.1.ne (i := 2) (j := 3) rfl rfl (by omega)
    have dNE : ∀ e ∈ x.bs, ∀ b, isIn x.m.ns b → ¬isIn (.slice e.a e.evs.length e.c) b := fun e he b hb hb' => hP.1.ne (i := 0) (j := 4) rfl rfl (by omega) hb (inA e he b hb')
    have dLE : ∀ e ∈ x.bs, ∀ b, isIn x.m.ls b → ¬isIn (.slice e.a e.evs.length e.c) b := fun e he b hb hb' => hP.1.ne (i := 1) (j := 4) rfl rfl (by omega) hb (inA e he b hb')
    have dVE : ∀ e ∈ x.bs, ∀ b, isIn x.m.vs b → ¬isIn (.slice e.a e.evs.length e.c) b := fun e he b hb hb' => hP.1.ne (i := 2) (j := 4) rfl rfl (by omega) hb (inA e he b hb')
    have dBE : ∀ e ∈ x.bs, ∀ b, isIn x.bv b → ¬isIn (.slice e.a e.evs.length e.c) b := fun e he b hb hb' => hP.1.ne (i := 3) (j := 4) rfl rfl (by omega) hb (inA e he b hb')
    have dEE : ∀ (j k : Nat) (e f : El), j ≠ k → x.bs[j]? = some e → x.bs[k]? = some f → ∀ b, isIn (.slice e.a e.evs.length e.c) b → ¬isIn (.slice f.a f.evs.length f.c) b := fun j k e f hjk hj hk b hb =>
      (show Star w1 (x.bs.map El.as) from hP.1.nth (i := 4) rfl).ne (i := j) (j := k) (a := e.as) (c := f.as) (by rw [List.getElem?_map, hj]; rfl) (by rw [List.getElem?_map, hk]; rfl) hjk hb
    have hN : Own w1 68 2 (.slice x.m.na x.m.names.length x.m.nc) x.m.names.length (fl Nm.cells x.m.names) := Wt.own_n hP
    have hL : Own w1 3 1 (.slice x.m.la x.m.lens.length x.m.lc) x.m.lens.length (fl encN x.m.lens) := Wt.own_l hP
    have hV : Own w1 70 2 (.slice x.m.va x.m.vals.length x.m.vc) x.m.vals.length (fl Vl.cells x.m.vals) := Wt.own_v hP
    have hB : Own w1 86 1 (.slice x.ba x.bs.length x.bc) x.bs.length (fl El.cells x.bs) := Wt.own_b hP
    have hE : ∀ (k : Nat) (e : El), x.bs[k]? = some e → 0 ≤ k → Own w1 89 11 (.slice e.a e.evs.length e.c) e.evs.length (fl Ev.cells e.evs) := fun k e hk _ => Wt.own_e hP (List.mem_of_getElem? hk)
    have hsm := hP.2
    (repeat (first | with_reducible refine n_then ?_ | with_reducible refine n_block ?_ | with_reducible refine n_jump ?_))
    (repeat (first | refine swp_seq ?_ | refine swp_block ?_)); refine swp_region (by kernel_rfl) ?_
    repeat (first | refine x_move (by rfl) ?_ | refine x_as (by rfl) (by rfl) ?_ | refine x_skip (by rfl) ?_ | refine x_fld (by rfl) (by rfl) FldO.h ?_)
    refine x_idx i (by rfl) (by rfl) (by rfl) ElSz.h rfl hi' ?_
    refine w_load (by rfl) (by rfl) (rd_load wt_len AggT.h (hrdv hu) hxi rfl rfl) ?_
    refine w_alloc (by rfl) (by rfl) ZeroT.h ?_; intro b5 w2 e2 u2 h2
    refine w_store (xs := x.cells) (by rfl) (by rfl) (by rfl) (by rfl) SzT.h (by rfl) (by rfl) h2 (by simp) ?_
    intro w3 u3 h5 _
    refine x_nilw ?_
    replace h5 : Blk w3 b5 40 [.int .i64 x.m.dec, .slice x.m.na x.m.names.length x.m.nc, .slice x.m.la x.m.lens.length x.m.lc, .slice x.m.va x.m.vals.length x.m.vc, .slice x.ba x.bs.length x.bc] := h5
    have u13 : Ext w1 w3 := u2.trans' u3 fun b hb e => by have e' : b = b5 := e; omega
    have s13 := u13.size
    have nb5 : ¬x.as.In b5 := fun hb => by have := hxlt b5 hb; omega
    replace hN := hN.at u13
    replace hL := hL.at u13
    replace hV := hV.at u13
    replace hB := hB.at u13
    replace hE := fun k e hk h0 => (hE k e hk h0).at u13
    have ux : Upd (x.as.In) w1 w3 := u13.of _
    have l5 := h5.lt
    refine swp_fit [(0, .slice (some ⟨pb, po, none⟩) xs.length c0), (1, .int .i64 (mark : Nat)), (4, .int .i64 (i : Nat)), (5, .pointer (some ⟨b5, 0, none⟩))] ⟨rfl, rfl, rfl, rfl, trivial⟩ fun ρ => ?_
    (repeat (first | refine swp_seq ?_ | refine swp_block ?_)); refine swp_region (by kernel_rfl) ?_
    repeat (first | refine x_move (by rfl) ?_ | refine x_as (by rfl) (by rfl) ?_ | refine x_skip (by rfl) ?_ | refine x_fld (by rfl) (by rfl) FldO.h ?_)
    refine x_mul (by rfl) (by rfl) (by rfl) (by omega) ?_
    repeat (first | refine x_move (by rfl) ?_ | refine x_as (by rfl) (by rfl) ?_ | refine x_skip (by rfl) ?_ | refine x_fld (by rfl) (by rfl) FldO.h ?_ | refine x_nilck (by rfl) (by rfl) ?_ | refine x_len (by rfl) (by rfl) ElOf.some ?_ | refine x_ext (by rfl) (by rfl) (by rfl) ?_ | refine x_pickT (by rfl) (by rfl) (by rfl) ?_ | refine x_pickF (by rfl) (by rfl) (by rfl) ?_ | refine x_add (by rfl) (by rfl) (by rfl) (by omega) ?_ | refine x_sub (by rfl) (by rfl) (by rfl) (by omega) ?_ | refine x_not (by rfl) (by rfl) ?_)
    refine x_nilw ?_
    refine swp_fit [(0, .slice (some ⟨pb, po, none⟩) xs.length c0), (1, .int .i64 (mark : Nat)), (4, .int .i64 (i : Nat)), (5, .pointer (some ⟨b5, 0, none⟩)), (6, .int .i64 (nnOf mark i))] ⟨rfl, rfl, rfl, rfl, rfl, trivial⟩ fun ρ => ?_
    generalize nnOf mark i = nn
    (repeat (first | refine swp_seq ?_ | refine swp_block ?_)); refine swp_region (by kernel_rfl) ?_
    repeat (first | refine x_move (by rfl) ?_ | refine x_as (by rfl) (by rfl) ?_ | refine x_skip (by rfl) ?_ | refine x_fld (by rfl) (by rfl) FldO.h ?_)
    refine w_load (by rfl) (by rfl) (load_one (v := .slice x.m.na x.m.names.length x.m.nc) OneT.h h5 (by rfl)) ?_
    repeat (first | refine x_move (by rfl) ?_ | refine x_as (by rfl) (by rfl) ?_ | refine x_skip (by rfl) ?_ | refine x_fld (by rfl) (by rfl) FldO.h ?_)
    refine x_build (v := .agg (nmk nn 0).cells.toArray) (by rfl) (by rfl) (fun _ => by kernel_rfl) ?_
    repeat (first | refine x_move (by rfl) ?_ | refine x_as (by rfl) (by rfl) ?_ | refine x_skip (by rfl) ?_ | refine x_fld (by rfl) (by rfl) FldO.h ?_)
    refine x_build (v := .agg (nmk nn 0).cells.toArray) (by rfl) (by rfl) (fun _ => by kernel_rfl) ?_
    repeat (first | refine x_move (by rfl) ?_ | refine x_as (by rfl) (by rfl) ?_ | refine x_skip (by rfl) ?_ | refine x_fld (by rfl) (by rfl) FldO.h ?_)
    refine w_bslice (e := 68) (cs := (nmk nn 0).cells ++ (nmk nn 0).cells) (by rfl) (by rfl) (by rfl) (by kernel_rfl) ?_
    intro bb1 wb1 _ ub1 hb1
    replace hN := hN.at ub1
    replace hL := hL.at ub1
    replace hV := hV.at ub1
    replace hB := hB.at ub1
    replace hE := fun k e hk h0 => (hE k e hk h0).at ub1
    replace h5 := h5.at ub1
    replace ux := ux.ext ub1
    refine w_append3 (more := []) (news := (nmk nn 0).cells ++ (nmk nn 0).cells) (by rfl) (by rfl) (by rfl) (by rfl) SlC.h hN (by rw [List.append_nil]; exact hb1) (by rfl) (by rfl) (by omega) (roomS (by omega) (by omega)) ?_
    intro gv wg1 og1 os1 ug1 hc1
    repeat (first | refine x_move (by rfl) ?_ | refine x_as (by rfl) (by rfl) ?_ | refine x_skip (by rfl) ?_ | refine x_fld (by rfl) (by rfl) FldO.h ?_)
    refine x_nilw ?_
    replace hL := hL.get ug1 fun b hb hf => dNL b hf hb
    replace hV := hV.get ug1 fun b hb hf => dNV b hf hb
    replace hB := hB.get ug1 fun b hb hf => dNB b hf hb
    replace hE := fun k e hk h0 => (hE k e hk h0).get ug1 fun b hb hf => dNE e (List.mem_of_getElem? hk) b hf hb
    replace h5 := h5.get ug1 fun hb => nb5 (inN _ hb)
    replace ux := ux.trans (ug1.mono inN)
    replace hN := os1
    have sl1 := og1.slice
    obtain ⟨ga1, gc1, rfl⟩ := sl1
    have hgv : ∀ b, isIn (.slice ga1 (x.m.names.length + 2) gc1) b → isIn x.m.ns b ∨ w3.heap.size ≤ b := fun b hb => by
      rcases hc1 with ⟨g, cap, e1, e2⟩ | hn
      · rw [e2] at hb
        left
        show isIn (.slice x.m.na x.m.names.length x.m.nc) b
        rw [e1]
        exact hb
      · have := hn b hb
        have := ub1.size
        exact .inr (by omega)
    refine swp_fit [(0, .slice (some ⟨pb, po, none⟩) xs.length c0), (1, .int .i64 (mark : Nat)), (4, .int .i64 (i : Nat)), (5, .pointer (some ⟨b5, 0, none⟩)), (6, .int .i64 nn), (7, .slice ga1 (x.m.names.length + 2) gc1)] ⟨rfl, rfl, rfl, rfl, rfl, rfl, trivial⟩ fun ρ => ?_
    (repeat (first | refine swp_seq ?_ | refine swp_block ?_)); refine swp_region (by kernel_rfl) ?_
    repeat (first | refine x_move (by rfl) ?_ | refine x_as (by rfl) (by rfl) ?_ | refine x_skip (by rfl) ?_ | refine x_fld (by rfl) (by rfl) FldO.h ?_)
    refine w_load (by rfl) (by rfl) (load_one (v := .slice x.m.la x.m.lens.length x.m.lc) OneT.h h5 (by rfl)) ?_
    repeat (first | refine x_move (by rfl) ?_ | refine x_as (by rfl) (by rfl) ?_ | refine x_skip (by rfl) ?_ | refine x_fld (by rfl) (by rfl) FldO.h ?_)
    refine w_bslice (e := 3) (cs := [.int .i64 nn, .int .i64 nn]) (by rfl) (by rfl) (by rfl) (by kernel_rfl) ?_
    intro bb2 wb2 _ ub2 hb2
    replace hN := hN.at ub2
    replace hL := hL.at ub2
    replace hV := hV.at ub2
    replace hB := hB.at ub2
    replace hE := fun k e hk h0 => (hE k e hk h0).at ub2
    replace h5 := h5.at ub2
    replace ux := ux.ext ub2
    refine w_append3 (more := []) (news := [.int .i64 nn, .int .i64 nn]) (by rfl) (by rfl) (by rfl) (by rfl) SlC.h hL (by rw [List.append_nil]; exact hb2) (by rfl) (by rfl) (by omega) (roomS (by omega) (by omega)) ?_
    intro gl wg2 og2 os2 ug2 hc2
    repeat (first | refine x_move (by rfl) ?_ | refine x_as (by rfl) (by rfl) ?_ | refine x_skip (by rfl) ?_ | refine x_fld (by rfl) (by rfl) FldO.h ?_)
    refine x_nilw ?_
    replace hN := hN.get ug2 fun b hb hf => dNL b hb hf
    replace hV := hV.get ug2 fun b hb hf => dLV b hf hb
    replace hB := hB.get ug2 fun b hb hf => dLB b hf hb
    replace hE := fun k e hk h0 => (hE k e hk h0).get ug2 fun b hb hf => dLE e (List.mem_of_getElem? hk) b hf hb
    replace h5 := h5.get ug2 fun hb => nb5 (inL _ hb)
    replace ux := ux.trans (ug2.mono inL)
    replace hL := os2
    have sl2 := og2.slice
    obtain ⟨ga2, gc2, rfl⟩ := sl2
    replace og1 := (og1.at ub2).get ug2 fun b hb hf => by
      rcases hgv b hb with h' | h'
      · exact dNL b h' hf
      · have := hxlt b (inL b hf); omega
    refine swp_fit [(0, .slice (some ⟨pb, po, none⟩) xs.length c0), (1, .int .i64 (mark : Nat)), (4, .int .i64 (i : Nat)), (5, .pointer (some ⟨b5, 0, none⟩)), (6, .int .i64 nn), (7, .slice ga1 (x.m.names.length + 2) gc1), (8, .slice ga2 (x.m.lens.length + 2) gc2)] ⟨rfl, rfl, rfl, rfl, rfl, rfl, rfl, trivial⟩ fun ρ => ?_
    (repeat (first | refine swp_seq ?_ | refine swp_block ?_)); refine swp_region (by kernel_rfl) ?_
    repeat (first | refine x_move (by rfl) ?_ | refine x_as (by rfl) (by rfl) ?_ | refine x_skip (by rfl) ?_ | refine x_fld (by rfl) (by rfl) FldO.h ?_)
    refine w_load (by rfl) (by rfl) (load_one (v := .slice x.m.va x.m.vals.length x.m.vc) OneT.h h5 (by rfl)) ?_
    repeat (first | refine x_move (by rfl) ?_ | refine x_as (by rfl) (by rfl) ?_ | refine x_skip (by rfl) ?_ | refine x_fld (by rfl) (by rfl) FldO.h ?_)
    refine x_build (v := .agg (vmk true nn).cells.toArray) (by rfl) (by rfl) (fun _ => by kernel_rfl) ?_
    repeat (first | refine x_move (by rfl) ?_ | refine x_as (by rfl) (by rfl) ?_ | refine x_skip (by rfl) ?_ | refine x_fld (by rfl) (by rfl) FldO.h ?_)
    refine w_bslice (e := 70) (cs := (vmk true nn).cells) (by rfl) (by rfl) (by rfl) (by kernel_rfl) ?_
    intro bb3 wb3 _ ub3 hb3
    replace hN := hN.at ub3
    replace hL := hL.at ub3
    replace hV := hV.at ub3
    replace hB := hB.at ub3
    replace hE := fun k e hk h0 => (hE k e hk h0).at ub3
    replace h5 := h5.at ub3
    replace ux := ux.ext ub3
    refine w_append3 (more := []) (news := (vmk true nn).cells) (by rfl) (by rfl) (by rfl) (by rfl) SlC.h hV (by rw [List.append_nil]; exact hb3) (by rfl) (by rfl) (by omega) (roomS (by omega) (by omega)) ?_
    intro gw wg3 og3 os3 ug3 hc3
    repeat (first | refine x_move (by rfl) ?_ | refine x_as (by rfl) (by rfl) ?_ | refine x_skip (by rfl) ?_ | refine x_fld (by rfl) (by rfl) FldO.h ?_)
    refine x_nilw ?_
    replace hN := hN.get ug3 fun b hb hf => dNV b hb hf
    replace hL := hL.get ug3 fun b hb hf => dLV b hb hf
    replace hB := hB.get ug3 fun b hb hf => dVB b hf hb
    replace hE := fun k e hk h0 => (hE k e hk h0).get ug3 fun b hb hf => dVE e (List.mem_of_getElem? hk) b hf hb
    replace h5 := h5.get ug3 fun hb => nb5 (inV _ hb)
    replace ux := ux.trans (ug3.mono inV)
    replace hV := os3
    have sl3 := og3.slice
    obtain ⟨ga3, gc3, rfl⟩ := sl3
    replace og1 := (og1.at ub3).get ug3 fun b hb hf => by
      rcases hgv b hb with h' | h'
      · exact dNV b h' hf
      · have := hxlt b (inV b hf); omega
    refine swp_fit [(0, .slice (some ⟨pb, po, none⟩) xs.length c0), (1, .int .i64 (mark : Nat)), (4, .int .i64 (i : Nat)), (5, .pointer (some ⟨b5, 0, none⟩)), (6, .int .i64 nn), (7, .slice ga1 (x.m.names.length + 2) gc1), (8, .slice ga2 (x.m.lens.length + 2) gc2), (9, .slice ga3 (x.m.vals.length + 1) gc3)] ⟨rfl, rfl, rfl, rfl, rfl, rfl, rfl, rfl, trivial⟩ fun ρ => ?_
    have hog1 : fl Nm.cells x.m.names ++ ((nmk nn 0).cells ++ (nmk nn 0).cells) = fl Nm.cells (x.m.names ++ [nmk nn 0, nmk nn 0]) := by rw [fl_append]; rfl
    rw [hog1] at og1
    refine swp_seq ?_
    refine PEv.swp_cutQ (fun σ w' => ∃ C : List Nm, At σ [(0, .slice (some ⟨pb, po, none⟩) xs.length c0), (1, .int .i64 (mark : Nat)), (4, .int .i64 (i : Nat)), (5, .pointer (some ⟨b5, 0, none⟩)), (6, .int .i64 nn), (7, .slice ga1 (x.m.names.length + 2) gc1), (8, .slice ga2 (x.m.lens.length + 2) gc2), (9, .slice ga3 (x.m.vals.length + 1) gc3)] ∧ C.length = (x.m.names.length + 2) ∧ (∀ m, m < (x.m.names.length + 2) → C[m]? = some ((fun m : Nat => nmk nn (m : Nat)) m)) ∧ Own w' 68 2 (.slice ga1 (x.m.names.length + 2) gc1) (x.m.names.length + 2) (fl Nm.cells C) ∧ Upd (isIn (.slice ga1 (x.m.names.length + 2) gc1)) wg3 w') ?_ ?_
    · (repeat (first | refine swp_seq ?_ | refine swp_block ?_)); refine swp_region (by kernel_rfl) ?_
      repeat (first | refine x_move (by rfl) ?_ | refine x_as (by rfl) (by rfl) ?_ | refine x_skip (by rfl) ?_ | refine x_fld (by rfl) (by rfl) FldO.h ?_)
      refine x_nilw ?_
      refine swp_fit [(0, .slice (some ⟨pb, po, none⟩) xs.length c0), (1, .int .i64 (mark : Nat)), (4, .int .i64 (i : Nat)), (5, .pointer (some ⟨b5, 0, none⟩)), (6, .int .i64 nn), (7, .slice ga1 (x.m.names.length + 2) gc1), (8, .slice ga2 (x.m.lens.length + 2) gc2), (9, .slice ga3 (x.m.vals.length + 1) gc3), (10, .int .i64 ((0 : Nat) : Int))] ⟨rfl, rfl, rfl, rfl, rfl, rfl, rfl, rfl, rfl, trivial⟩ fun ρ => ?_
      (repeat (first | refine swp_seq ?_ | refine swp_block ?_))
      refine swp_loop (fun (q : Nat) σ w' => ∃ C : List Nm, At σ [(0, .slice (some ⟨pb, po, none⟩) xs.length c0), (1, .int .i64 (mark : Nat)), (4, .int .i64 (i : Nat)), (5, .pointer (some ⟨b5, 0, none⟩)), (6, .int .i64 nn), (7, .slice ga1 (x.m.names.length + 2) gc1), (8, .slice ga2 (x.m.lens.length + 2) gc2), (9, .slice ga3 (x.m.vals.length + 1) gc3), (10, .int .i64 (q : Nat))] ∧ q ≤ (x.m.names.length + 2) ∧ C.length = (x.m.names.length + 2) ∧ (∀ m, m < q → C[m]? = some ((fun m : Nat => nmk nn (m : Nat)) m)) ∧ Own w' 68 2 (.slice ga1 (x.m.names.length + 2) gc1) (x.m.names.length + 2) (fl Nm.cells C) ∧ Upd (isIn (.slice ga1 (x.m.names.length + 2) gc1)) wg3 w') (fun q => (x.m.names.length + 2) - q) 0 ⟨(x.m.names ++ [nmk nn 0, nmk nn 0]), at_ ⟨rfl, rfl, rfl, rfl, rfl, rfl, rfl, rfl, rfl, trivial⟩, by omega, by simp, fun m hm => absurd hm (by omega), og1, Upd.refl _ _⟩ ?_
      rintro q σ wq ⟨C, ⟨ρ, rfl⟩, hq, hCl, hC, hown, hu⟩
      (repeat (first | refine swp_seq ?_ | refine swp_block ?_)); refine swp_region (by kernel_rfl) ?_
      repeat (first | refine x_move (by rfl) ?_ | refine x_as (by rfl) (by rfl) ?_ | refine x_len (by rfl) (by rfl) ElOf.some ?_ | refine x_add (by rfl) (by rfl) (by rfl) (by omega) ?_ | refine x_lss (by rfl) (by rfl) (by rfl) ?_)
      refine x_nilw ?_
      (repeat (first | refine swp_seq ?_ | refine swp_block ?_))
      refine swp_if (by rfl) (fun hcq => swp_skip ?_) (fun hcq => ?_)
      · have hq' : q < (x.m.names.length + 2) := by omega
        have hpo := hown.pos (by omega)
        obtain ⟨g, cap, R, hVe, hgb, hc1, hc2, hc3⟩ := hpo
        have hfl : (fl Nm.cells C).length = (x.m.names.length + 2) * 2 := by rw [fl_length nm_len', hCl]
        (repeat (first | with_reducible refine n_then ?_ | with_reducible refine n_block ?_ | with_reducible refine n_jump ?_))
        (repeat (first | refine swp_seq ?_ | refine swp_block ?_)); refine swp_region (by kernel_rfl) ?_
        have hVe2 := hVe
        simp only [Value.slice.injEq] at hVe2
        obtain ⟨rfl, _, rfl⟩ := hVe2
        repeat (first | refine x_move (by rfl) ?_ | refine x_as (by rfl) (by rfl) ?_ | refine x_skip (by rfl) ?_ | refine x_fld (by rfl) (by rfl) FldO.h ?_)
        refine x_convU (by kernel_rfl) (by kernel_rfl) (by rfl) (by rfl) ⟨by omega, by omega⟩ ?_
        refine x_build (v := .agg (nmk nn (q : Nat)).cells.toArray) (by rfl) (by rfl) (fun _ => by kernel_rfl) ?_
        refine x_idx q (by rfl) (by rfl) (by rfl) ElSz.h rfl hq' ?_
        refine w_store (xs := (nmk nn (q : Nat)).cells) (by rfl) (by rfl) (by rfl) (by rfl) SzT.h (by rfl) (by rfl) hgb (by rw [List.length_append, hfl]; omega) ?_
        intro wr ur hbr _
        refine x_nilw ?_
        (repeat (first | with_reducible refine n_then ?_ | with_reducible refine n_block ?_ | with_reducible refine n_jump ?_))
        (repeat (first | refine swp_seq ?_ | refine swp_block ?_)); refine swp_region (by kernel_rfl) ?_
        repeat (first | refine x_move (by rfl) ?_ | refine x_as (by rfl) (by rfl) ?_ | refine x_len (by rfl) (by rfl) ElOf.some ?_ | refine x_add (by rfl) (by rfl) (by rfl) (by omega) ?_ | refine x_lss (by rfl) (by rfl) (by rfl) ?_)
        refine x_nilw ?_
        have hown' := own_set (i := q) (x := (fun m : Nat => nmk nn (m : Nat)) q) hVe nm_len' hbr hCl hq' (by omega) hc1 hc2 hc3
        exact ⟨q + 1, ⟨_, at_ ⟨rfl, rfl, rfl, rfl, rfl, rfl, rfl, rfl, rfl, trivial⟩, hq', by rw [List.length_set]; exact hCl, set_marks (f := fun m : Nat => nmk nn (m : Nat)) hC hCl hq', hown', hu.trans (ur.mono fun b e => by rw [hVe]; exact e)⟩, by omega⟩
      · have hqn : q = (x.m.names.length + 2) := by omega
        subst hqn
        refine swp_exit ?_; (repeat (first | with_reducible refine e_then ?_ | with_reducible refine e_jump ?_)); refine e_block ?_; (repeat (first | with_reducible refine n_then ?_ | with_reducible refine n_block ?_ | with_reducible refine n_jump ?_))
        exact ⟨rfl, C, at_ ⟨rfl, rfl, rfl, rfl, rfl, rfl, rfl, rfl, trivial⟩, hCl, hC, hown, hu⟩
    rintro σ w6 ⟨C1, ⟨ρ, rfl⟩, hCl1, -, own1, uf1⟩
    refine n_then ?_
    have hN' : ∃ N1 : List Nm, N1.length = x.m.names.length ∧ Own w6 68 2 (.slice x.m.na x.m.names.length x.m.nc) x.m.names.length (fl Nm.cells N1) := by
      rcases hc1 with ⟨g, cap, e1, e2⟩ | hn
      · rw [e2] at own1
        refine ⟨C1.take x.m.names.length, by rw [List.length_take]; omega, ?_⟩
        have := own_back own1
        rw [fl_take nm_len'] at this
        rw [e1]
        exact this
      · exact ⟨x.m.names, rfl, hN.get uf1 fun b hb hf => by have := hxlt b (inN b hb); have := hn b hf; have := ub1.size; omega⟩
    have gvE : ∀ b, isIn (.slice ga1 (x.m.names.length + 2) gc1) b → ∀ Y, x.as.In Y → b = Y → isIn x.m.ns b := fun b hb Y hY e => by
      subst e
      rcases hgv b hb with h' | h'
      · exact h'
      · have := hxlt b hY; omega
    obtain ⟨N1, hN1, hN2⟩ := hN'
    clear hN
    replace hL := hL.get uf1 fun b hb hf => dNL b (gvE b hf b (inL b hb) rfl) hb
    replace hV := hV.get uf1 fun b hb hf => dNV b (gvE b hf b (inV b hb) rfl) hb
    replace hB := hB.get uf1 fun b hb hf => dNB b (gvE b hf b (inB b hb) rfl) hb
    replace hE := fun k e hk h0 => (hE k e hk h0).get uf1 fun b hb hf => dNE e (List.mem_of_getElem? hk) b (gvE b hf b (inE e (List.mem_of_getElem? hk) b hb) rfl) hb
    have hb5 : ¬isIn (.slice ga1 (x.m.names.length + 2) gc1) b5 := fun hb => by
      rcases hgv b5 hb with h' | h'
      · exact nb5 (inN b5 h')
      · omega
    replace h5 := h5.get uf1 hb5
    replace ux := ux.trans' uf1 fun b hb hf => by
      rcases hgv b hf with h' | h'
      · exact inN b h'
      · omega
    have zf1 := uf1.size
    clear og1 own1 uf1 hc1
    have hN := hN2
    clear hN2
    refine swp_seq ?_
    refine PEv.swp_cutQ (fun σ w' => ∃ C : List Nm, At σ [(0, .slice (some ⟨pb, po, none⟩) xs.length c0), (1, .int .i64 (mark : Nat)), (4, .int .i64 (i : Nat)), (5, .pointer (some ⟨b5, 0, none⟩)), (6, .int .i64 nn), (7, .slice ga1 (x.m.names.length + 2) gc1), (8, .slice ga2 (x.m.lens.length + 2) gc2), (9, .slice ga3 (x.m.vals.length + 1) gc3)] ∧ C.length = x.m.names.length ∧ (∀ m, m < x.m.names.length → C[m]? = some ((fun m : Nat => nmk nn 7) m)) ∧ Own w' 68 2 (.slice x.m.na x.m.names.length x.m.nc) x.m.names.length (fl Nm.cells C) ∧ Upd (isIn (.slice x.m.na x.m.names.length x.m.nc)) w6 w') ?_ ?_
    · (repeat (first | refine swp_seq ?_ | refine swp_block ?_)); refine swp_region (by kernel_rfl) ?_
      repeat (first | refine x_move (by rfl) ?_ | refine x_as (by rfl) (by rfl) ?_ | refine x_skip (by rfl) ?_ | refine x_fld (by rfl) (by rfl) FldO.h ?_)
      refine x_nilw ?_
      refine swp_fit [(0, .slice (some ⟨pb, po, none⟩) xs.length c0), (1, .int .i64 (mark : Nat)), (4, .int .i64 (i : Nat)), (5, .pointer (some ⟨b5, 0, none⟩)), (6, .int .i64 nn), (7, .slice ga1 (x.m.names.length + 2) gc1), (8, .slice ga2 (x.m.lens.length + 2) gc2), (9, .slice ga3 (x.m.vals.length + 1) gc3), (11, .int .i64 ((0 : Nat) : Int))] ⟨rfl, rfl, rfl, rfl, rfl, rfl, rfl, rfl, rfl, trivial⟩ fun ρ => ?_
      (repeat (first | refine swp_seq ?_ | refine swp_block ?_))
      refine swp_loop (fun (q : Nat) σ w' => ∃ C : List Nm, At σ [(0, .slice (some ⟨pb, po, none⟩) xs.length c0), (1, .int .i64 (mark : Nat)), (4, .int .i64 (i : Nat)), (5, .pointer (some ⟨b5, 0, none⟩)), (6, .int .i64 nn), (7, .slice ga1 (x.m.names.length + 2) gc1), (8, .slice ga2 (x.m.lens.length + 2) gc2), (9, .slice ga3 (x.m.vals.length + 1) gc3), (11, .int .i64 (q : Nat))] ∧ q ≤ x.m.names.length ∧ C.length = x.m.names.length ∧ (∀ m, m < q → C[m]? = some ((fun m : Nat => nmk nn 7) m)) ∧ Own w' 68 2 (.slice x.m.na x.m.names.length x.m.nc) x.m.names.length (fl Nm.cells C) ∧ Upd (isIn (.slice x.m.na x.m.names.length x.m.nc)) w6 w') (fun q => x.m.names.length - q) 0 ⟨N1, at_ ⟨rfl, rfl, rfl, rfl, rfl, rfl, rfl, rfl, rfl, trivial⟩, by omega, hN1, fun m hm => absurd hm (by omega), hN, Upd.refl _ _⟩ ?_
      rintro q σ wq ⟨C, ⟨ρ, rfl⟩, hq, hCl, hC, hown, hu⟩
      have h5q := h5.get hu fun hb => nb5 (inN _ hb)
      (repeat (first | refine swp_seq ?_ | refine swp_block ?_)); refine swp_region (by kernel_rfl) ?_
      repeat (first | refine x_move (by rfl) ?_ | refine x_as (by rfl) (by rfl) ?_ | refine x_skip (by rfl) ?_ | refine x_fld (by rfl) (by rfl) FldO.h ?_)
      refine w_load (by rfl) (by rfl) (load_one (v := .slice x.m.na x.m.names.length x.m.nc) OneT.h h5q (by rfl)) ?_
      repeat (first | refine x_move (by rfl) ?_ | refine x_as (by rfl) (by rfl) ?_ | refine x_len (by rfl) (by rfl) ElOf.some ?_ | refine x_add (by rfl) (by rfl) (by rfl) (by omega) ?_ | refine x_lss (by rfl) (by rfl) (by rfl) ?_)
      refine x_nilw ?_
      (repeat (first | refine swp_seq ?_ | refine swp_block ?_))
      refine swp_if (by rfl) (fun hcq => swp_skip ?_) (fun hcq => ?_)
      · have hq' : q < x.m.names.length := by omega
        have hpo := hown.pos (by omega)
        obtain ⟨g, cap, R, hVe, hgb, hc1, hc2, hc3⟩ := hpo
        have hfl : (fl Nm.cells C).length = x.m.names.length * 2 := by rw [fl_length nm_len', hCl]
        (repeat (first | with_reducible refine n_then ?_ | with_reducible refine n_block ?_ | with_reducible refine n_jump ?_))
        (repeat (first | refine swp_seq ?_ | refine swp_block ?_)); refine swp_region (by kernel_rfl) ?_
        repeat (first | refine x_move (by rfl) ?_ | refine x_as (by rfl) (by rfl) ?_ | refine x_skip (by rfl) ?_ | refine x_fld (by rfl) (by rfl) FldO.h ?_)
        refine w_load (by rfl) (by rfl) (load_one (v := .slice (some ⟨g, 0, none⟩) x.m.names.length cap) OneT.h h5q (by rw [← hVe]; rfl)) ?_
        repeat (first | refine x_move (by rfl) ?_ | refine x_as (by rfl) (by rfl) ?_ | refine x_skip (by rfl) ?_ | refine x_fld (by rfl) (by rfl) FldO.h ?_)
        refine x_build (v := .agg (nmk nn 7).cells.toArray) (by rfl) (by rfl) (fun _ => by kernel_rfl) ?_
        refine x_idx q (by rfl) (by rfl) (by rfl) ElSz.h rfl hq' ?_
        refine w_store (xs := (nmk nn 7).cells) (by rfl) (by rfl) (by rfl) (by rfl) SzT.h (by rfl) (by rfl) hgb (by rw [List.length_append, hfl]; omega) ?_
        intro wr ur hbr _
        refine x_nilw ?_
        (repeat (first | with_reducible refine n_then ?_ | with_reducible refine n_block ?_ | with_reducible refine n_jump ?_))
        (repeat (first | refine swp_seq ?_ | refine swp_block ?_)); refine swp_region (by kernel_rfl) ?_
        repeat (first | refine x_move (by rfl) ?_ | refine x_as (by rfl) (by rfl) ?_ | refine x_len (by rfl) (by rfl) ElOf.some ?_ | refine x_add (by rfl) (by rfl) (by rfl) (by omega) ?_ | refine x_lss (by rfl) (by rfl) (by rfl) ?_)
        refine x_nilw ?_
        have hown' := own_set (i := q) (x := (fun m : Nat => nmk nn 7) q) hVe nm_len' hbr hCl hq' (by omega) hc1 hc2 hc3
        exact ⟨q + 1, ⟨_, at_ ⟨rfl, rfl, rfl, rfl, rfl, rfl, rfl, rfl, rfl, trivial⟩, hq', by rw [List.length_set]; exact hCl, set_marks (f := fun m : Nat => nmk nn 7) hC hCl hq', hown', hu.trans (ur.mono fun b e => by rw [hVe]; exact e)⟩, by omega⟩
      · have hqn : q = x.m.names.length := by omega
        subst hqn
        refine swp_exit ?_; (repeat (first | with_reducible refine e_then ?_ | with_reducible refine e_jump ?_)); refine e_block ?_; (repeat (first | with_reducible refine n_then ?_ | with_reducible refine n_block ?_ | with_reducible refine n_jump ?_))
        exact ⟨rfl, C, at_ ⟨rfl, rfl, rfl, rfl, rfl, rfl, rfl, rfl, trivial⟩, hCl, hC, hown, hu⟩
    rintro σ w7 ⟨C2, ⟨ρ, rfl⟩, hCl2, -, own2, uf2⟩
    refine n_then ?_
    replace hL := hL.get uf2 fun b hb hf => dNL b hf hb
    replace hV := hV.get uf2 fun b hb hf => dNV b hf hb
    replace hB := hB.get uf2 fun b hb hf => dNB b hf hb
    replace hE := fun k e hk h0 => (hE k e hk h0).get uf2 fun b hb hf => dNE e (List.mem_of_getElem? hk) b hf hb
    replace h5 := h5.get uf2 fun hb => nb5 (inN _ hb)
    replace ux := ux.trans (uf2.mono inN)
    clear hN
    have hN := own2
    refine swp_seq ?_
    refine PEv.swp_cutQ (fun σ w' => ∃ C : List Int, At σ [(0, .slice (some ⟨pb, po, none⟩) xs.length c0), (1, .int .i64 (mark : Nat)), (4, .int .i64 (i : Nat)), (5, .pointer (some ⟨b5, 0, none⟩)), (6, .int .i64 nn), (7, .slice ga1 (x.m.names.length + 2) gc1), (8, .slice ga2 (x.m.lens.length + 2) gc2), (9, .slice ga3 (x.m.vals.length + 1) gc3)] ∧ C.length = x.m.lens.length ∧ (∀ m, m < x.m.lens.length → C[m]? = some ((fun m : Nat => nn) m)) ∧ Own w' 3 1 (.slice x.m.la x.m.lens.length x.m.lc) x.m.lens.length (fl encN C) ∧ Upd (isIn (.slice x.m.la x.m.lens.length x.m.lc)) w7 w') ?_ ?_
    · (repeat (first | refine swp_seq ?_ | refine swp_block ?_)); refine swp_region (by kernel_rfl) ?_
      repeat (first | refine x_move (by rfl) ?_ | refine x_as (by rfl) (by rfl) ?_ | refine x_skip (by rfl) ?_ | refine x_fld (by rfl) (by rfl) FldO.h ?_)
      refine x_nilw ?_
      refine swp_fit [(0, .slice (some ⟨pb, po, none⟩) xs.length c0), (1, .int .i64 (mark : Nat)), (4, .int .i64 (i : Nat)), (5, .pointer (some ⟨b5, 0, none⟩)), (6, .int .i64 nn), (7, .slice ga1 (x.m.names.length + 2) gc1), (8, .slice ga2 (x.m.lens.length + 2) gc2), (9, .slice ga3 (x.m.vals.length + 1) gc3), (12, .int .i64 ((0 : Nat) : Int))] ⟨rfl, rfl, rfl, rfl, rfl, rfl, rfl, rfl, rfl, trivial⟩ fun ρ => ?_
      (repeat (first | refine swp_seq ?_ | refine swp_block ?_))
      refine swp_loop (fun (q : Nat) σ w' => ∃ C : List Int, At σ [(0, .slice (some ⟨pb, po, none⟩) xs.length c0), (1, .int .i64 (mark : Nat)), (4, .int .i64 (i : Nat)), (5, .pointer (some ⟨b5, 0, none⟩)), (6, .int .i64 nn), (7, .slice ga1 (x.m.names.length + 2) gc1), (8, .slice ga2 (x.m.lens.length + 2) gc2), (9, .slice ga3 (x.m.vals.length + 1) gc3), (12, .int .i64 (q : Nat))] ∧ q ≤ x.m.lens.length ∧ C.length = x.m.lens.length ∧ (∀ m, m < q → C[m]? = some ((fun m : Nat => nn) m)) ∧ Own w' 3 1 (.slice x.m.la x.m.lens.length x.m.lc) x.m.lens.length (fl encN C) ∧ Upd (isIn (.slice x.m.la x.m.lens.length x.m.lc)) w7 w') (fun q => x.m.lens.length - q) 0 ⟨x.m.lens, at_ ⟨rfl, rfl, rfl, rfl, rfl, rfl, rfl, rfl, rfl, trivial⟩, by omega, rfl, fun m hm => absurd hm (by omega), hL, Upd.refl _ _⟩ ?_
      rintro q σ wq ⟨C, ⟨ρ, rfl⟩, hq, hCl, hC, hown, hu⟩
      have h5q := h5.get hu fun hb => nb5 (inL _ hb)
      (repeat (first | refine swp_seq ?_ | refine swp_block ?_)); refine swp_region (by kernel_rfl) ?_
      repeat (first | refine x_move (by rfl) ?_ | refine x_as (by rfl) (by rfl) ?_ | refine x_skip (by rfl) ?_ | refine x_fld (by rfl) (by rfl) FldO.h ?_)
      refine w_load (by rfl) (by rfl) (load_one (v := .slice x.m.la x.m.lens.length x.m.lc) OneT.h h5q (by rfl)) ?_
      repeat (first | refine x_move (by rfl) ?_ | refine x_as (by rfl) (by rfl) ?_ | refine x_len (by rfl) (by rfl) ElOf.some ?_ | refine x_add (by rfl) (by rfl) (by rfl) (by omega) ?_ | refine x_lss (by rfl) (by rfl) (by rfl) ?_)
      refine x_nilw ?_
      (repeat (first | refine swp_seq ?_ | refine swp_block ?_))
      refine swp_if (by rfl) (fun hcq => swp_skip ?_) (fun hcq => ?_)
      · have hq' : q < x.m.lens.length := by omega
        have hpo := hown.pos (by omega)
        obtain ⟨g, cap, R, hVe, hgb, hc1, hc2, hc3⟩ := hpo
        have hfl : (fl encN C).length = x.m.lens.length * 1 := by rw [fl_length encN_len, hCl]
        (repeat (first | with_reducible refine n_then ?_ | with_reducible refine n_block ?_ | with_reducible refine n_jump ?_))
        (repeat (first | refine swp_seq ?_ | refine swp_block ?_)); refine swp_region (by kernel_rfl) ?_
        repeat (first | refine x_move (by rfl) ?_ | refine x_as (by rfl) (by rfl) ?_ | refine x_skip (by rfl) ?_ | refine x_fld (by rfl) (by rfl) FldO.h ?_)
        refine w_load (by rfl) (by rfl) (load_one (v := .slice (some ⟨g, 0, none⟩) x.m.lens.length cap) OneT.h h5q (by rw [← hVe]; rfl)) ?_
        repeat (first | refine x_move (by rfl) ?_ | refine x_as (by rfl) (by rfl) ?_ | refine x_skip (by rfl) ?_ | refine x_fld (by rfl) (by rfl) FldO.h ?_)
        refine x_idx q (by rfl) (by rfl) (by rfl) ElSz.h rfl hq' ?_
        refine w_store (xs := [.int .i64 nn]) (by rfl) (by rfl) (by rfl) (by rfl) SzT.h (by rfl) (by rfl) hgb (by rw [List.length_append, hfl]; omega) ?_
        intro wr ur hbr _
        refine x_nilw ?_
        (repeat (first | with_reducible refine n_then ?_ | with_reducible refine n_block ?_ | with_reducible refine n_jump ?_))
        (repeat (first | refine swp_seq ?_ | refine swp_block ?_)); refine swp_region (by kernel_rfl) ?_
        repeat (first | refine x_move (by rfl) ?_ | refine x_as (by rfl) (by rfl) ?_ | refine x_len (by rfl) (by rfl) ElOf.some ?_ | refine x_add (by rfl) (by rfl) (by rfl) (by omega) ?_ | refine x_lss (by rfl) (by rfl) (by rfl) ?_)
        refine x_nilw ?_
        have hown' := own_set (i := q) (x := (fun m : Nat => nn) q) hVe encN_len hbr hCl hq' (by omega) hc1 hc2 hc3
        exact ⟨q + 1, ⟨_, at_ ⟨rfl, rfl, rfl, rfl, rfl, rfl, rfl, rfl, rfl, trivial⟩, hq', by rw [List.length_set]; exact hCl, set_marks (f := fun m : Nat => nn) hC hCl hq', hown', hu.trans (ur.mono fun b e => by rw [hVe]; exact e)⟩, by omega⟩
      · have hqn : q = x.m.lens.length := by omega
        subst hqn
        refine swp_exit ?_; (repeat (first | with_reducible refine e_then ?_ | with_reducible refine e_jump ?_)); refine e_block ?_; (repeat (first | with_reducible refine n_then ?_ | with_reducible refine n_block ?_ | with_reducible refine n_jump ?_))
        exact ⟨rfl, C, at_ ⟨rfl, rfl, rfl, rfl, rfl, rfl, rfl, rfl, trivial⟩, hCl, hC, hown, hu⟩
    rintro σ w8 ⟨C3, ⟨ρ, rfl⟩, hCl3, -, own3, uf3⟩
    refine n_then ?_
    replace hN := hN.get uf3 fun b hb hf => dNL b hb hf
    replace hV := hV.get uf3 fun b hb hf => dLV b hf hb
    replace hB := hB.get uf3 fun b hb hf => dLB b hf hb
    replace hE := fun k e hk h0 => (hE k e hk h0).get uf3 fun b hb hf => dLE e (List.mem_of_getElem? hk) b hf hb
    replace h5 := h5.get uf3 fun hb => nb5 (inL _ hb)
    replace ux := ux.trans (uf3.mono inL)
    clear hL
    have hL := own3
    refine swp_seq ?_
    refine PEv.swp_cutQ (fun σ w' => ∃ C : List Vl, At σ [(0, .slice (some ⟨pb, po, none⟩) xs.length c0), (1, .int .i64 (mark : Nat)), (4, .int .i64 (i : Nat)), (5, .pointer (some ⟨b5, 0, none⟩)), (6, .int .i64 nn), (7, .slice ga1 (x.m.names.length + 2) gc1), (8, .slice ga2 (x.m.lens.length + 2) gc2), (9, .slice ga3 (x.m.vals.length + 1) gc3)] ∧ C.length = x.m.vals.length ∧ (∀ m, m < x.m.vals.length → C[m]? = some ((fun m : Nat => vmk false nn) m)) ∧ Own w' 70 2 (.slice x.m.va x.m.vals.length x.m.vc) x.m.vals.length (fl Vl.cells C) ∧ Upd (isIn (.slice x.m.va x.m.vals.length x.m.vc)) w8 w') ?_ ?_
    · (repeat (first | refine swp_seq ?_ | refine swp_block ?_)); refine swp_region (by kernel_rfl) ?_
      repeat (first | refine x_move (by rfl) ?_ | refine x_as (by rfl) (by rfl) ?_ | refine x_skip (by rfl) ?_ | refine x_fld (by rfl) (by rfl) FldO.h ?_)
      refine x_nilw ?_
      refine swp_fit [(0, .slice (some ⟨pb, po, none⟩) xs.length c0), (1, .int .i64 (mark : Nat)), (4, .int .i64 (i : Nat)), (5, .pointer (some ⟨b5, 0, none⟩)), (6, .int .i64 nn), (7, .slice ga1 (x.m.names.length + 2) gc1), (8, .slice ga2 (x.m.lens.length + 2) gc2), (9, .slice ga3 (x.m.vals.length + 1) gc3), (13, .int .i64 ((0 : Nat) : Int))] ⟨rfl, rfl, rfl, rfl, rfl, rfl, rfl, rfl, rfl, trivial⟩ fun ρ => ?_
      (repeat (first | refine swp_seq ?_ | refine swp_block ?_))
      refine swp_loop (fun (q : Nat) σ w' => ∃ C : List Vl, At σ [(0, .slice (some ⟨pb, po, none⟩) xs.length c0), (1, .int .i64 (mark : Nat)), (4, .int .i64 (i : Nat)), (5, .pointer (some ⟨b5, 0, none⟩)), (6, .int .i64 nn), (7, .slice ga1 (x.m.names.length + 2) gc1), (8, .slice ga2 (x.m.lens.length + 2) gc2), (9, .slice ga3 (x.m.vals.length + 1) gc3), (13, .int .i64 (q : Nat))] ∧ q ≤ x.m.vals.length ∧ C.length = x.m.vals.length ∧ (∀ m, m < q → C[m]? = some ((fun m : Nat => vmk false nn) m)) ∧ Own w' 70 2 (.slice x.m.va x.m.vals.length x.m.vc) x.m.vals.length (fl Vl.cells C) ∧ Upd (isIn (.slice x.m.va x.m.vals.length x.m.vc)) w8 w') (fun q => x.m.vals.length - q) 0 ⟨x.m.vals, at_ ⟨rfl, rfl, rfl, rfl, rfl, rfl, rfl, rfl, rfl, trivial⟩, by omega, rfl, fun m hm => absurd hm (by omega), hV, Upd.refl _ _⟩ ?_
      rintro q σ wq ⟨C, ⟨ρ, rfl⟩, hq, hCl, hC, hown, hu⟩
      have h5q := h5.get hu fun hb => nb5 (inV _ hb)
      (repeat (first | refine swp_seq ?_ | refine swp_block ?_)); refine swp_region (by kernel_rfl) ?_
      repeat (first | refine x_move (by rfl) ?_ | refine x_as (by rfl) (by rfl) ?_ | refine x_skip (by rfl) ?_ | refine x_fld (by rfl) (by rfl) FldO.h ?_)
      refine w_load (by rfl) (by rfl) (load_one (v := .slice x.m.va x.m.vals.length x.m.vc) OneT.h h5q (by rfl)) ?_
      repeat (first | refine x_move (by rfl) ?_ | refine x_as (by rfl) (by rfl) ?_ | refine x_len (by rfl) (by rfl) ElOf.some ?_ | refine x_add (by rfl) (by rfl) (by rfl) (by omega) ?_ | refine x_lss (by rfl) (by rfl) (by rfl) ?_)
      refine x_nilw ?_
      (repeat (first | refine swp_seq ?_ | refine swp_block ?_))
      refine swp_if (by rfl) (fun hcq => swp_skip ?_) (fun hcq => ?_)
      · have hq' : q < x.m.vals.length := by omega
        have hpo := hown.pos (by omega)
        obtain ⟨g, cap, R, hVe, hgb, hc1, hc2, hc3⟩ := hpo
        have hfl : (fl Vl.cells C).length = x.m.vals.length * 2 := by rw [fl_length vl_len, hCl]
        (repeat (first | with_reducible refine n_then ?_ | with_reducible refine n_block ?_ | with_reducible refine n_jump ?_))
        (repeat (first | refine swp_seq ?_ | refine swp_block ?_)); refine swp_region (by kernel_rfl) ?_
        repeat (first | refine x_move (by rfl) ?_ | refine x_as (by rfl) (by rfl) ?_ | refine x_skip (by rfl) ?_ | refine x_fld (by rfl) (by rfl) FldO.h ?_)
        refine w_load (by rfl) (by rfl) (load_one (v := .slice (some ⟨g, 0, none⟩) x.m.vals.length cap) OneT.h h5q (by rw [← hVe]; rfl)) ?_
        repeat (first | refine x_move (by rfl) ?_ | refine x_as (by rfl) (by rfl) ?_ | refine x_skip (by rfl) ?_ | refine x_fld (by rfl) (by rfl) FldO.h ?_)
        refine x_build (v := .agg (vmk false nn).cells.toArray) (by rfl) (by rfl) (fun _ => by kernel_rfl) ?_
        refine x_idx q (by rfl) (by rfl) (by rfl) ElSz.h rfl hq' ?_
        refine w_store (xs := (vmk false nn).cells) (by rfl) (by rfl) (by rfl) (by rfl) SzT.h (by rfl) (by rfl) hgb (by rw [List.length_append, hfl]; omega) ?_
        intro wr ur hbr _
        refine x_nilw ?_
        (repeat (first | with_reducible refine n_then ?_ | with_reducible refine n_block ?_ | with_reducible refine n_jump ?_))
        (repeat (first | refine swp_seq ?_ | refine swp_block ?_)); refine swp_region (by kernel_rfl) ?_
        repeat (first | refine x_move (by rfl) ?_ | refine x_as (by rfl) (by rfl) ?_ | refine x_len (by rfl) (by rfl) ElOf.some ?_ | refine x_add (by rfl) (by rfl) (by rfl) (by omega) ?_ | refine x_lss (by rfl) (by rfl) (by rfl) ?_)
        refine x_nilw ?_
        have hown' := own_set (i := q) (x := (fun m : Nat => vmk false nn) q) hVe vl_len hbr hCl hq' (by omega) hc1 hc2 hc3
        exact ⟨q + 1, ⟨_, at_ ⟨rfl, rfl, rfl, rfl, rfl, rfl, rfl, rfl, rfl, trivial⟩, hq', by rw [List.length_set]; exact hCl, set_marks (f := fun m : Nat => vmk false nn) hC hCl hq', hown', hu.trans (ur.mono fun b e => by rw [hVe]; exact e)⟩, by omega⟩
      · have hqn : q = x.m.vals.length := by omega
        subst hqn
        refine swp_exit ?_; (repeat (first | with_reducible refine e_then ?_ | with_reducible refine e_jump ?_)); refine e_block ?_; (repeat (first | with_reducible refine n_then ?_ | with_reducible refine n_block ?_ | with_reducible refine n_jump ?_))
        exact ⟨rfl, C, at_ ⟨rfl, rfl, rfl, rfl, rfl, rfl, rfl, rfl, trivial⟩, hCl, hC, hown, hu⟩
    rintro σ w9 ⟨C4, ⟨ρ, rfl⟩, hCl4, -, own4, uf4⟩
    refine n_then ?_
    replace hN := hN.get uf4 fun b hb hf => dNV b hb hf
    replace hL := hL.get uf4 fun b hb hf => dLV b hb hf
    replace hB := hB.get uf4 fun b hb hf => dVB b hf hb
    replace hE := fun k e hk h0 => (hE k e hk h0).get uf4 fun b hb hf => dVE e (List.mem_of_getElem? hk) b hf hb
    replace h5 := h5.get uf4 fun hb => nb5 (inV _ hb)
    replace ux := ux.trans (uf4.mono inV)
    clear hV
    have hV := own4
    have s39 : w3.heap.size ≤ w9.heap.size := by
      have := ub1.size; have := ug1.size; have := ub2.size; have := ug2.size; have := ub3.size; have := ug3.size; have := uf2.size; have := uf3.size; have := uf4.size
      omega
    clear uf2 uf3 uf4 own2 own3 own4
    refine swp_seq ?_
    refine PEv.swp_cutQ (fun σ w' => At σ [(0, .slice (some ⟨pb, po, none⟩) xs.length c0), (1, .int .i64 (mark : Nat)), (4, .int .i64 (i : Nat)), (5, .pointer (some ⟨b5, 0, none⟩)), (6, .int .i64 nn), (7, .slice ga1 (x.m.names.length + 2) gc1), (8, .slice ga2 (x.m.lens.length + 2) gc2), (9, .slice ga3 (x.m.vals.length + 1) gc3)] ∧ (Own w' 68 2 (.slice x.m.na x.m.names.length x.m.nc) x.m.names.length (fl Nm.cells C2) ∧ Own w' 3 1 (.slice x.m.la x.m.lens.length x.m.lc) x.m.lens.length (fl encN C3) ∧ Own w' 70 2 (.slice x.m.va x.m.vals.length x.m.vc) x.m.vals.length (fl Vl.cells C4)) ∧ (Own w' 86 1 (.slice x.ba x.bs.length x.bc) x.bs.length (fl El.cells x.bs) ∧ Blk w' b5 40 [.int .i64 x.m.dec, .slice x.m.na x.m.names.length x.m.nc, .slice x.m.la x.m.lens.length x.m.lc, .slice x.m.va x.m.vals.length x.m.vc, .slice x.ba x.bs.length x.bc] ∧ Upd (x.as.In) w1 w')) ?_ ?_
    · (repeat (first | refine swp_seq ?_ | refine swp_block ?_)); refine swp_region (by kernel_rfl) ?_
      repeat (first | refine x_move (by rfl) ?_ | refine x_as (by rfl) (by rfl) ?_ | refine x_skip (by rfl) ?_ | refine x_fld (by rfl) (by rfl) FldO.h ?_)
      refine x_nilw ?_
      refine swp_fit [(0, .slice (some ⟨pb, po, none⟩) xs.length c0), (1, .int .i64 (mark : Nat)), (4, .int .i64 (i : Nat)), (5, .pointer (some ⟨b5, 0, none⟩)), (6, .int .i64 nn), (7, .slice ga1 (x.m.names.length + 2) gc1), (8, .slice ga2 (x.m.lens.length + 2) gc2), (9, .slice ga3 (x.m.vals.length + 1) gc3), (14, .int .i64 ((0 : Nat) : Int))] ⟨rfl, rfl, rfl, rfl, rfl, rfl, rfl, rfl, rfl, trivial⟩ fun ρ => ?_
      (repeat (first | refine swp_seq ?_ | refine swp_block ?_))
      refine swp_loop (fun (k : Nat) σ w' => At σ [(0, .slice (some ⟨pb, po, none⟩) xs.length c0), (1, .int .i64 (mark : Nat)), (4, .int .i64 (i : Nat)), (5, .pointer (some ⟨b5, 0, none⟩)), (6, .int .i64 nn), (7, .slice ga1 (x.m.names.length + 2) gc1), (8, .slice ga2 (x.m.lens.length + 2) gc2), (9, .slice ga3 (x.m.vals.length + 1) gc3), (14, .int .i64 (k : Nat))] ∧ k ≤ x.bs.length ∧ (∀ (j : Nat) (e : El), x.bs[j]? = some e → k ≤ j → Own w' 89 11 (.slice e.a e.evs.length e.c) e.evs.length (fl Ev.cells e.evs)) ∧ (Own w' 68 2 (.slice x.m.na x.m.names.length x.m.nc) x.m.names.length (fl Nm.cells C2) ∧ Own w' 3 1 (.slice x.m.la x.m.lens.length x.m.lc) x.m.lens.length (fl encN C3) ∧ Own w' 70 2 (.slice x.m.va x.m.vals.length x.m.vc) x.m.vals.length (fl Vl.cells C4)) ∧ (Own w' 86 1 (.slice x.ba x.bs.length x.bc) x.bs.length (fl El.cells x.bs) ∧ Blk w' b5 40 [.int .i64 x.m.dec, .slice x.m.na x.m.names.length x.m.nc, .slice x.m.la x.m.lens.length x.m.lc, .slice x.m.va x.m.vals.length x.m.vc, .slice x.ba x.bs.length x.bc] ∧ Upd (x.as.In) w1 w') ∧ w3.heap.size ≤ w'.heap.size) (fun k => x.bs.length - k) 0 ⟨at_ ⟨rfl, rfl, rfl, rfl, rfl, rfl, rfl, rfl, rfl, trivial⟩, by omega, hE, ⟨hN, hL, hV⟩, ⟨hB, h5, ux⟩, s39⟩ ?_
      clear hN hL hV hB hE h5 ux s39
      rintro k σ w10 ⟨⟨ρ, rfl⟩, hk, hE, ⟨hN, hL, hV⟩, ⟨hB, h5, ux⟩, s310⟩
      (repeat (first | refine swp_seq ?_ | refine swp_block ?_)); refine swp_region (by kernel_rfl) ?_
      repeat (first | refine x_move (by rfl) ?_ | refine x_as (by rfl) (by rfl) ?_ | refine x_skip (by rfl) ?_ | refine x_fld (by rfl) (by rfl) FldO.h ?_)
      refine w_load (by rfl) (by rfl) (load_one (v := .slice x.ba x.bs.length x.bc) OneT.h h5 (by rfl)) ?_
      repeat (first | refine x_move (by rfl) ?_ | refine x_as (by rfl) (by rfl) ?_ | refine x_len (by rfl) (by rfl) ElOf.some ?_ | refine x_add (by rfl) (by rfl) (by rfl) (by omega) ?_ | refine x_lss (by rfl) (by rfl) (by rfl) ?_)
      refine x_nilw ?_
      (repeat (first | refine swp_seq ?_ | refine swp_block ?_))
      refine swp_if (by rfl) (fun hck => swp_skip ?_) (fun hck => ?_)
      · have hk' : k < x.bs.length := by omega
        have hee0 := nthE hk'
        obtain ⟨e, hee⟩ := hee0
        have hem := List.mem_of_getElem? hee
        have Le := L.e e hem
        have hEk := hE k e hee (Nat.le_refl k)
        have rb := hB.rd
        have pbv := rb.pos (by omega)
        obtain ⟨vb, vo, vc, hve, -, -⟩ := pbv
        rw [hve] at rb
        (repeat (first | with_reducible refine n_then ?_ | with_reducible refine n_block ?_ | with_reducible refine n_jump ?_))
        (repeat (first | refine swp_seq ?_ | refine swp_block ?_)); refine swp_region (by kernel_rfl) ?_
        repeat (first | refine x_move (by rfl) ?_ | refine x_as (by rfl) (by rfl) ?_ | refine x_skip (by rfl) ?_ | refine x_fld (by rfl) (by rfl) FldO.h ?_ | refine x_nilck (by rfl) (by rfl) ?_ | refine x_len (by rfl) (by rfl) ElOf.some ?_ | refine x_ext (by rfl) (by rfl) (by rfl) ?_ | refine x_pickT (by rfl) (by rfl) (by rfl) ?_ | refine x_pickF (by rfl) (by rfl) (by rfl) ?_ | refine x_add (by rfl) (by rfl) (by rfl) (by omega) ?_ | refine x_sub (by rfl) (by rfl) (by rfl) (by omega) ?_ | refine x_not (by rfl) (by rfl) ?_)
        refine w_load (by rfl) (by rfl) (load_one (v := .slice (some ⟨vb, vo, none⟩) x.bs.length vc) OneT.h h5 (by rw [← hve]; rfl)) ?_
        repeat (first | refine x_move (by rfl) ?_ | refine x_as (by rfl) (by rfl) ?_ | refine x_skip (by rfl) ?_ | refine x_fld (by rfl) (by rfl) FldO.h ?_ | refine x_nilck (by rfl) (by rfl) ?_ | refine x_len (by rfl) (by rfl) ElOf.some ?_ | refine x_ext (by rfl) (by rfl) (by rfl) ?_ | refine x_pickT (by rfl) (by rfl) (by rfl) ?_ | refine x_pickF (by rfl) (by rfl) (by rfl) ?_ | refine x_add (by rfl) (by rfl) (by rfl) (by omega) ?_ | refine x_sub (by rfl) (by rfl) (by rfl) (by omega) ?_ | refine x_not (by rfl) (by rfl) ?_)
        refine x_idx k (by rfl) (by rfl) (by rfl) ElSz.h rfl hk' ?_
        refine w_load (by rfl) (by rfl) (load_one_cell OneT.h (rd_cell (v := .slice e.a e.evs.length e.c) (j := 0) el_len rb hee rfl rfl rfl)) ?_
        repeat (first | refine x_move (by rfl) ?_ | refine x_as (by rfl) (by rfl) ?_ | refine x_skip (by rfl) ?_ | refine x_fld (by rfl) (by rfl) FldO.h ?_ | refine x_nilck (by rfl) (by rfl) ?_ | refine x_len (by rfl) (by rfl) ElOf.some ?_ | refine x_ext (by rfl) (by rfl) (by rfl) ?_ | refine x_pickT (by rfl) (by rfl) (by rfl) ?_ | refine x_pickF (by rfl) (by rfl) (by rfl) ?_ | refine x_add (by rfl) (by rfl) (by rfl) (by omega) ?_ | refine x_sub (by rfl) (by rfl) (by rfl) (by omega) ?_ | refine x_not (by rfl) (by rfl) ?_)
        refine x_build (v := .agg (emk nn 0 0).cells.toArray) (by rfl) (by rfl) (fun _ => by kernel_rfl) ?_
        refine w_bslice (e := 89) (cs := (emk nn 0 0).cells) (by rfl) (by rfl) (by rfl) (by kernel_rfl) ?_
        intro b11 w11 _ u11 h11
        replace hN := hN.at u11
        replace hL := hL.at u11
        replace hV := hV.at u11
        replace hB := hB.at u11
        replace h5 := h5.at u11
        replace ux := ux.ext u11
        replace hE := fun j f hj hkj => (hE j f hj hkj).at u11
        have z11 := u11.size
        refine w_append3 (more := []) (news := (emk nn 0 0).cells) (by rfl) (by rfl) (by rfl) (by rfl) SlC.h (hEk.at u11) (by rw [List.append_nil]; exact h11) (by rfl) (by rfl) (by omega) (roomS (by omega) (by omega)) ?_
        intro ge w12 og os u12 hc12
        repeat (first | refine x_move (by rfl) ?_ | refine x_as (by rfl) (by rfl) ?_ | refine x_skip (by rfl) ?_ | refine x_fld (by rfl) (by rfl) FldO.h ?_ | refine x_nilck (by rfl) (by rfl) ?_ | refine x_len (by rfl) (by rfl) ElOf.some ?_ | refine x_ext (by rfl) (by rfl) (by rfl) ?_ | refine x_pickT (by rfl) (by rfl) (by rfl) ?_ | refine x_pickF (by rfl) (by rfl) (by rfl) ?_ | refine x_add (by rfl) (by rfl) (by rfl) (by omega) ?_ | refine x_sub (by rfl) (by rfl) (by rfl) (by omega) ?_ | refine x_not (by rfl) (by rfl) ?_)
        refine x_nilw ?_
        have hge : ∀ b, isIn ge b → isIn (.slice e.a e.evs.length e.c) b ∨ w11.heap.size ≤ b := fun b hb => by
          rcases hc12 with ⟨g, cap, q1, q2⟩ | hn
          · rw [q2] at hb
            rw [q1]
            exact .inl hb
          · exact .inr (hn b hb)
        replace hN := hN.get u12 fun b hb hf => dNE e hem b hb hf
        replace hL := hL.get u12 fun b hb hf => dLE e hem b hb hf
        replace hV := hV.get u12 fun b hb hf => dVE e hem b hb hf
        replace hB := hB.get u12 fun b hb hf => dBE e hem b hb hf
        replace h5 := h5.get u12 fun hb => nb5 (inE e hem _ hb)
        replace ux := ux.trans (u12.mono (inE e hem))
        have hE2 : ∀ (j : Nat) (f : El), x.bs[j]? = some f → k + 1 ≤ j → Own w12 89 11 (.slice f.a f.evs.length f.c) f.evs.length (fl Ev.cells f.evs) := fun j f hj hkj => (hE j f hj (by omega)).get u12 fun b hb hf => dEE j k f e (by omega) hj hee b hb hf
        have z12 := u12.size
        have hpo := og.pos (by omega)
        obtain ⟨g, cap, R, hgeq, hgb, hc1, hc2, hc3⟩ := hpo
        subst hgeq
        have hgl : (fl Ev.cells e.evs).length = e.evs.length * 11 := fl_length ev_len _
        have hxl : (fl Ev.cells e.evs ++ (emk nn 0 0).cells).length = e.evs.length * 11 + 11 := by rw [List.length_append, hgl]; rfl
        (repeat (first | refine swp_seq ?_ | refine swp_block ?_)); refine swp_region (by kernel_rfl) ?_
        repeat (first | refine x_move (by rfl) ?_ | refine x_as (by rfl) (by rfl) ?_ | refine x_skip (by rfl) ?_ | refine x_fld (by rfl) (by rfl) FldO.h ?_ | refine x_nilck (by rfl) (by rfl) ?_ | refine x_len (by rfl) (by rfl) ElOf.some ?_ | refine x_ext (by rfl) (by rfl) (by rfl) ?_ | refine x_pickT (by rfl) (by rfl) (by rfl) ?_ | refine x_pickF (by rfl) (by rfl) (by rfl) ?_ | refine x_add (by rfl) (by rfl) (by rfl) (by omega) ?_ | refine x_sub (by rfl) (by rfl) (by rfl) (by omega) ?_ | refine x_not (by rfl) (by rfl) ?_)
        refine x_idx e.evs.length (by rfl) (by rfl) (by rfl) ElSz.h (by omega) (by omega) ?_
        repeat (first | refine x_move (by rfl) ?_ | refine x_as (by rfl) (by rfl) ?_ | refine x_skip (by rfl) ?_ | refine x_fld (by rfl) (by rfl) FldO.h ?_)
        refine w_store (xs := [.int .u64 5]) (by rfl) (by rfl) (by rfl) (by rfl) SzT.h (by rfl) (by rfl) hgb (by rw [List.length_append, hxl]; omega) ?_
        intro w13 u13' hb13 _
        refine x_nilw ?_
        have hgin : ∀ b, b = g → isIn (.slice e.a e.evs.length e.c) b ∨ w11.heap.size ≤ b := fun b hb => hge b (by rw [hb]; rfl)
        have gno : ∀ b, x.as.In b → b = g → isIn (.slice e.a e.evs.length e.c) b := fun b hb hg => by
          rcases hgin b hg with h' | h'
          · exact h'
          · have := hxlt b hb; omega
        have hEk3 : Own w13 89 11 (.slice e.a e.evs.length e.c) e.evs.length (fl Ev.cells e.evs) := by
          rcases hc12 with ⟨g', cap', q1, q2⟩ | hn
          · simp only [Value.slice.injEq, Option.some.injEq, Addr.mk.injEq, and_true, true_and] at q2
            obtain ⟨rfl, rfl⟩ := q2
            rw [q1]
            refine own_beyond (o := 0 + e.evs.length * 11 + 1) (R := (emk nn 0 0).cells ++ R) (v := .int .u64 5) (by rw [← List.append_assoc]; exact hb13) hgl (by omega) ?_ (by omega) hc2 (by rw [← List.append_assoc]; exact hc3)
            rw [← List.append_assoc, List.length_append, hxl]
            omega
          · exact os.get u13' fun b hb hf => by have hf' : b = g := hf; have := hn g rfl; have := hxlt b (inE e hem b hb); omega
        replace hN := hN.get u13' fun b hb hf => dNE e hem b hb (gno b (inN b hb) hf)
        replace hL := hL.get u13' fun b hb hf => dLE e hem b hb (gno b (inL b hb) hf)
        replace hV := hV.get u13' fun b hb hf => dVE e hem b hb (gno b (inV b hb) hf)
        replace hB := hB.get u13' fun b hb hf => dBE e hem b hb (gno b (inB b hb) hf)
        replace h5 := h5.get u13' fun hb => by
          rcases hgin b5 hb with h' | h'
          · exact nb5 (inE e hem b5 h')
          · omega
        replace ux := ux.trans' u13' fun b hb hf => by
          rcases hgin b hf with h' | h'
          · exact inE e hem b h'
          · omega
        have hE3 : ∀ (j : Nat) (f : El), x.bs[j]? = some f → k + 1 ≤ j → Own w13 89 11 (.slice f.a f.evs.length f.c) f.evs.length (fl Ev.cells f.evs) := fun j f hj hkj => (hE2 j f hj hkj).get u13' fun b hb hf => dEE j k f e (by omega) hj hee b hb (gno b (inE f (List.mem_of_getElem? hj) b hb) hf)
        have z13 := u13'.size
        clear hE hE2 hgb hb13 og os u12 u13' h11 u11 hc12 hge hgin gno hEk
        refine swp_fit [(0, .slice (some ⟨pb, po, none⟩) xs.length c0), (1, .int .i64 (mark : Nat)), (4, .int .i64 (i : Nat)), (5, .pointer (some ⟨b5, 0, none⟩)), (6, .int .i64 nn), (7, .slice ga1 (x.m.names.length + 2) gc1), (8, .slice ga2 (x.m.lens.length + 2) gc2), (9, .slice ga3 (x.m.vals.length + 1) gc3), (14, .int .i64 (k : Nat))] ⟨rfl, rfl, rfl, rfl, rfl, rfl, rfl, rfl, rfl, trivial⟩ fun ρ => ?_
        refine PEv.swp_cutQ (fun σ w' => ∃ C : List Ev, At σ [(0, .slice (some ⟨pb, po, none⟩) xs.length c0), (1, .int .i64 (mark : Nat)), (4, .int .i64 (i : Nat)), (5, .pointer (some ⟨b5, 0, none⟩)), (6, .int .i64 nn), (7, .slice ga1 (x.m.names.length + 2) gc1), (8, .slice ga2 (x.m.lens.length + 2) gc2), (9, .slice ga3 (x.m.vals.length + 1) gc3), (14, .int .i64 (k : Nat))] ∧ C.length = e.evs.length ∧ (∀ m, m < e.evs.length → C[m]? = some ((fun m : Nat => emk nn 0 3) m)) ∧ Own w' 89 11 (.slice e.a e.evs.length e.c) e.evs.length (fl Ev.cells C) ∧ Upd (isIn (.slice e.a e.evs.length e.c)) w13 w') ?_ ?_
        · (repeat (first | refine swp_seq ?_ | refine swp_block ?_)); refine swp_region (by kernel_rfl) ?_
          repeat (first | refine x_move (by rfl) ?_ | refine x_as (by rfl) (by rfl) ?_ | refine x_skip (by rfl) ?_ | refine x_fld (by rfl) (by rfl) FldO.h ?_)
          refine x_nilw ?_
          refine swp_fit [(0, .slice (some ⟨pb, po, none⟩) xs.length c0), (1, .int .i64 (mark : Nat)), (4, .int .i64 (i : Nat)), (5, .pointer (some ⟨b5, 0, none⟩)), (6, .int .i64 nn), (7, .slice ga1 (x.m.names.length + 2) gc1), (8, .slice ga2 (x.m.lens.length + 2) gc2), (9, .slice ga3 (x.m.vals.length + 1) gc3), (14, .int .i64 (k : Nat)), (16, .int .i64 ((0 : Nat) : Int))] ⟨rfl, rfl, rfl, rfl, rfl, rfl, rfl, rfl, rfl, rfl, trivial⟩ fun ρ => ?_
          (repeat (first | refine swp_seq ?_ | refine swp_block ?_))
          refine swp_loop (fun (q : Nat) σ w' => ∃ C : List Ev, At σ [(0, .slice (some ⟨pb, po, none⟩) xs.length c0), (1, .int .i64 (mark : Nat)), (4, .int .i64 (i : Nat)), (5, .pointer (some ⟨b5, 0, none⟩)), (6, .int .i64 nn), (7, .slice ga1 (x.m.names.length + 2) gc1), (8, .slice ga2 (x.m.lens.length + 2) gc2), (9, .slice ga3 (x.m.vals.length + 1) gc3), (14, .int .i64 (k : Nat)), (16, .int .i64 (q : Nat))] ∧ q ≤ e.evs.length ∧ C.length = e.evs.length ∧ (∀ m, m < q → C[m]? = some ((fun m : Nat => emk nn 0 3) m)) ∧ Own w' 89 11 (.slice e.a e.evs.length e.c) e.evs.length (fl Ev.cells C) ∧ Upd (isIn (.slice e.a e.evs.length e.c)) w13 w') (fun q => e.evs.length - q) 0 ⟨e.evs, at_ ⟨rfl, rfl, rfl, rfl, rfl, rfl, rfl, rfl, rfl, rfl, trivial⟩, by omega, rfl, fun m hm => absurd hm (by omega), hEk3, Upd.refl _ _⟩ ?_
          rintro q σ wq ⟨C, ⟨ρ, rfl⟩, hq, hCl, hC, hown, hu⟩
          have h5q := h5.get hu fun hb => nb5 (inE e hem _ hb)
          have rbq := (hB.get hu fun b hb hf => dBE e hem b hb hf).rd
          rw [hve] at rbq
          (repeat (first | refine swp_seq ?_ | refine swp_block ?_)); refine swp_region (by kernel_rfl) ?_
          repeat (first | refine x_move (by rfl) ?_ | refine x_as (by rfl) (by rfl) ?_ | refine x_skip (by rfl) ?_ | refine x_fld (by rfl) (by rfl) FldO.h ?_)
          refine w_load (by rfl) (by rfl) (load_one (v := .slice (some ⟨vb, vo, none⟩) x.bs.length vc) OneT.h h5q (by rw [← hve]; rfl)) ?_
          repeat (first | refine x_move (by rfl) ?_ | refine x_as (by rfl) (by rfl) ?_ | refine x_skip (by rfl) ?_ | refine x_fld (by rfl) (by rfl) FldO.h ?_)
          refine x_idx k (by rfl) (by rfl) (by rfl) ElSz.h rfl hk' ?_
          refine w_load (by rfl) (by rfl) (load_one_cell OneT.h (rd_cell (v := .slice e.a e.evs.length e.c) (j := 0) el_len rbq hee rfl rfl rfl)) ?_
          repeat (first | refine x_move (by rfl) ?_ | refine x_as (by rfl) (by rfl) ?_ | refine x_len (by rfl) (by rfl) ElOf.some ?_ | refine x_add (by rfl) (by rfl) (by rfl) (by omega) ?_ | refine x_lss (by rfl) (by rfl) (by rfl) ?_)
          refine x_nilw ?_
          (repeat (first | refine swp_seq ?_ | refine swp_block ?_))
          refine swp_if (by rfl) (fun hcq => swp_skip ?_) (fun hcq => ?_)
          · have hq' : q < e.evs.length := by omega
            have hpo := hown.pos (by omega)
            obtain ⟨g, cap, R, hVe, hgb, hc1, hc2, hc3⟩ := hpo
            have hfl : (fl Ev.cells C).length = e.evs.length * 11 := by rw [fl_length ev_len, hCl]
            (repeat (first | with_reducible refine n_then ?_ | with_reducible refine n_block ?_ | with_reducible refine n_jump ?_))
            (repeat (first | refine swp_seq ?_ | refine swp_block ?_)); refine swp_region (by kernel_rfl) ?_
            repeat (first | refine x_move (by rfl) ?_ | refine x_as (by rfl) (by rfl) ?_ | refine x_skip (by rfl) ?_ | refine x_fld (by rfl) (by rfl) FldO.h ?_)
            refine w_load (by rfl) (by rfl) (load_one (v := .slice (some ⟨vb, vo, none⟩) x.bs.length vc) OneT.h h5q (by rw [← hve]; rfl)) ?_
            repeat (first | refine x_move (by rfl) ?_ | refine x_as (by rfl) (by rfl) ?_ | refine x_skip (by rfl) ?_ | refine x_fld (by rfl) (by rfl) FldO.h ?_ | refine x_nilck (by rfl) (by rfl) ?_ | refine x_len (by rfl) (by rfl) ElOf.some ?_ | refine x_ext (by rfl) (by rfl) (by rfl) ?_ | refine x_pickT (by rfl) (by rfl) (by rfl) ?_ | refine x_pickF (by rfl) (by rfl) (by rfl) ?_ | refine x_add (by rfl) (by rfl) (by rfl) (by omega) ?_ | refine x_sub (by rfl) (by rfl) (by rfl) (by omega) ?_ | refine x_not (by rfl) (by rfl) ?_)
            refine x_idx k (by rfl) (by rfl) (by rfl) ElSz.h rfl hk' ?_
            refine w_load (by rfl) (by rfl) (load_one_cell OneT.h (rd_cell (v := .slice (some ⟨g, 0, none⟩) e.evs.length cap) (j := 0) el_len rbq hee (by rw [← hVe]; rfl) rfl rfl)) ?_
            repeat (first | refine x_move (by rfl) ?_ | refine x_as (by rfl) (by rfl) ?_ | refine x_skip (by rfl) ?_ | refine x_fld (by rfl) (by rfl) FldO.h ?_ | refine x_nilck (by rfl) (by rfl) ?_ | refine x_len (by rfl) (by rfl) ElOf.some ?_ | refine x_ext (by rfl) (by rfl) (by rfl) ?_ | refine x_pickT (by rfl) (by rfl) (by rfl) ?_ | refine x_pickF (by rfl) (by rfl) (by rfl) ?_ | refine x_add (by rfl) (by rfl) (by rfl) (by omega) ?_ | refine x_sub (by rfl) (by rfl) (by rfl) (by omega) ?_ | refine x_not (by rfl) (by rfl) ?_)
            refine x_build (v := .agg (emk nn 0 3).cells.toArray) (by rfl) (by rfl) (fun _ => by kernel_rfl) ?_
            refine x_idx q (by rfl) (by rfl) (by rfl) ElSz.h rfl hq' ?_
            refine w_store (xs := (emk nn 0 3).cells) (by rfl) (by rfl) (by rfl) (by rfl) SzT.h (by rfl) (by rfl) hgb (by rw [List.length_append, hfl]; omega) ?_
            intro wr ur hbr _
            refine x_nilw ?_
            (repeat (first | with_reducible refine n_then ?_ | with_reducible refine n_block ?_ | with_reducible refine n_jump ?_))
            (repeat (first | refine swp_seq ?_ | refine swp_block ?_)); refine swp_region (by kernel_rfl) ?_
            repeat (first | refine x_move (by rfl) ?_ | refine x_as (by rfl) (by rfl) ?_ | refine x_skip (by rfl) ?_ | refine x_fld (by rfl) (by rfl) FldO.h ?_ | refine w_load (by rfl) (by rfl) (load_one OneT.h (by assumption) (by rfl)) ?_ | refine x_nilck (by rfl) (by rfl) ?_ | refine x_len (by rfl) (by rfl) ElOf.some ?_ | refine x_iface (by rfl) (by rfl) NIf.h ?_ | refine x_ext (by rfl) (by rfl) (by rfl) ?_ | refine x_pickT (by rfl) (by rfl) (by rfl) ?_ | refine x_pickF (by rfl) (by rfl) (by rfl) ?_ | refine x_add (by rfl) (by rfl) (by rfl) (by omega) ?_ | refine x_sub (by rfl) (by rfl) (by rfl) (by omega) ?_ | refine x_lss (by rfl) (by rfl) (by rfl) ?_ | refine x_geq (by rfl) (by rfl) (by rfl) ?_ | refine x_leq (by rfl) (by rfl) (by rfl) ?_ | refine x_gtr (by rfl) (by rfl) (by rfl) ?_ | refine x_eql (by rfl) (by rfl) (by rfl) ?_ | refine x_neq (by rfl) (by rfl) (by rfl) ?_ | refine x_not (by rfl) (by rfl) ?_)
            refine x_nilw ?_
            have hown' := own_set (i := q) (x := (fun m : Nat => emk nn 0 3) q) hVe ev_len hbr hCl hq' (by omega) hc1 hc2 hc3
            exact ⟨q + 1, ⟨_, at_ ⟨rfl, rfl, rfl, rfl, rfl, rfl, rfl, rfl, rfl, rfl, trivial⟩, hq', by rw [List.length_set]; exact hCl, set_marks (f := fun m : Nat => emk nn 0 3) hC hCl hq', hown', hu.trans (ur.mono fun b e => by rw [hVe]; exact e)⟩, by omega⟩
          · have hqn : q = e.evs.length := by omega
            subst hqn
            refine swp_exit ?_; (repeat (first | with_reducible refine e_then ?_ | with_reducible refine e_jump ?_)); refine e_block ?_; (repeat (first | with_reducible refine n_then ?_ | with_reducible refine n_block ?_ | with_reducible refine n_jump ?_))
            exact ⟨rfl, C, at_ ⟨rfl, rfl, rfl, rfl, rfl, rfl, rfl, rfl, rfl, trivial⟩, hCl, hC, hown, hu⟩
        rintro σ w14 ⟨C5, ⟨ρ, rfl⟩, -, -, -, uf5⟩
        (repeat (first | with_reducible refine n_then ?_ | with_reducible refine n_block ?_ | with_reducible refine n_jump ?_))
        (repeat (first | refine swp_seq ?_ | refine swp_block ?_)); refine swp_region (by kernel_rfl) ?_
        repeat (first | refine x_move (by rfl) ?_ | refine x_as (by rfl) (by rfl) ?_ | refine x_skip (by rfl) ?_ | refine x_fld (by rfl) (by rfl) FldO.h ?_ | refine w_load (by rfl) (by rfl) (load_one OneT.h (by assumption) (by rfl)) ?_ | refine x_nilck (by rfl) (by rfl) ?_ | refine x_len (by rfl) (by rfl) ElOf.some ?_ | refine x_iface (by rfl) (by rfl) NIf.h ?_ | refine x_ext (by rfl) (by rfl) (by rfl) ?_ | refine x_pickT (by rfl) (by rfl) (by rfl) ?_ | refine x_pickF (by rfl) (by rfl) (by rfl) ?_ | refine x_add (by rfl) (by rfl) (by rfl) (by omega) ?_ | refine x_sub (by rfl) (by rfl) (by rfl) (by omega) ?_ | refine x_lss (by rfl) (by rfl) (by rfl) ?_ | refine x_geq (by rfl) (by rfl) (by rfl) ?_ | refine x_leq (by rfl) (by rfl) (by rfl) ?_ | refine x_gtr (by rfl) (by rfl) (by rfl) ?_ | refine x_eql (by rfl) (by rfl) (by rfl) ?_ | refine x_neq (by rfl) (by rfl) (by rfl) ?_ | refine x_not (by rfl) (by rfl) ?_)
        refine x_nilw ?_
        have z14 := uf5.size
        exact ⟨k + 1, ⟨at_ ⟨rfl, rfl, rfl, rfl, rfl, rfl, rfl, rfl, rfl, trivial⟩, hk', fun j f hj hkj => (hE3 j f hj hkj).get uf5 fun b hb hf => dEE j k f e (by omega) hj hee b hb hf, ⟨hN.get uf5 fun b hb hf => dNE e hem b hb hf, hL.get uf5 fun b hb hf => dLE e hem b hb hf, hV.get uf5 fun b hb hf => dVE e hem b hb hf⟩, ⟨hB.get uf5 fun b hb hf => dBE e hem b hb hf, h5.get uf5 fun hb => nb5 (inE e hem _ hb), ux.trans (uf5.mono (inE e hem))⟩, by omega⟩, by omega⟩
      · refine swp_exit ?_; (repeat (first | with_reducible refine e_then ?_ | with_reducible refine e_jump ?_)); refine e_block ?_; (repeat (first | with_reducible refine n_then ?_ | with_reducible refine n_block ?_ | with_reducible refine n_jump ?_))
        exact ⟨rfl, at_ ⟨rfl, rfl, rfl, rfl, rfl, rfl, rfl, rfl, trivial⟩, ⟨hN, hL, hV⟩, hB, h5, ux⟩
    clear hN hL hV hB hE h5 ux s39
    rintro σ w10 ⟨⟨ρ, rfl⟩, ⟨hN, hL, hV⟩, hB, h5, ux⟩
    refine n_then ?_
    refine PEv.swp_cutQ (fun σ w' => At σ [(0, .slice (some ⟨pb, po, none⟩) xs.length c0), (1, .int .i64 (mark : Nat)), (4, .int .i64 (i : Nat))] ∧ (Own w' 68 2 (.slice x.m.na x.m.names.length x.m.nc) x.m.names.length (fl Nm.cells C2) ∧ Own w' 3 1 (.slice x.m.la x.m.lens.length x.m.lc) x.m.lens.length (fl encN C3) ∧ Own w' 70 2 (.slice x.m.va x.m.vals.length x.m.vc) x.m.vals.length (fl Vl.cells C4)) ∧ Upd (x.as.In) w1 w') ?_ ?_
    · (repeat (first | refine swp_seq ?_ | refine swp_block ?_)); refine swp_region (by kernel_rfl) ?_
      repeat (first | refine x_move (by rfl) ?_ | refine x_as (by rfl) (by rfl) ?_ | refine x_skip (by rfl) ?_ | refine x_fld (by rfl) (by rfl) FldO.h ?_ | refine x_nilck (by rfl) (by rfl) ?_ | refine x_len (by rfl) (by rfl) ElOf.some ?_ | refine x_ext (by rfl) (by rfl) (by rfl) ?_ | refine x_pickT (by rfl) (by rfl) (by rfl) ?_ | refine x_pickF (by rfl) (by rfl) (by rfl) ?_ | refine x_add (by rfl) (by rfl) (by rfl) (by omega) ?_ | refine x_sub (by rfl) (by rfl) (by rfl) (by omega) ?_ | refine x_not (by rfl) (by rfl) ?_)
      refine x_gtrT (by rfl) (by rfl) (by rfl) (by omega) ?_
      repeat (first | refine x_move (by rfl) ?_ | refine x_as (by rfl) (by rfl) ?_ | refine x_skip (by rfl) ?_ | refine x_fld (by rfl) (by rfl) FldO.h ?_ | refine x_nilck (by rfl) (by rfl) ?_ | refine x_len (by rfl) (by rfl) ElOf.some ?_ | refine x_ext (by rfl) (by rfl) (by rfl) ?_ | refine x_pickT (by rfl) (by rfl) (by rfl) ?_ | refine x_pickF (by rfl) (by rfl) (by rfl) ?_ | refine x_add (by rfl) (by rfl) (by rfl) (by omega) ?_ | refine x_sub (by rfl) (by rfl) (by rfl) (by omega) ?_ | refine x_not (by rfl) (by rfl) ?_)
      refine w_load (by rfl) (by rfl) (load_one (v := .slice x.ba x.bs.length x.bc) OneT.h h5 (by rfl)) ?_
      repeat (first | refine x_move (by rfl) ?_ | refine x_as (by rfl) (by rfl) ?_ | refine x_skip (by rfl) ?_ | refine x_fld (by rfl) (by rfl) FldO.h ?_ | refine x_nilck (by rfl) (by rfl) ?_ | refine x_len (by rfl) (by rfl) ElOf.some ?_ | refine x_ext (by rfl) (by rfl) (by rfl) ?_ | refine x_pickT (by rfl) (by rfl) (by rfl) ?_ | refine x_pickF (by rfl) (by rfl) (by rfl) ?_ | refine x_add (by rfl) (by rfl) (by rfl) (by omega) ?_ | refine x_sub (by rfl) (by rfl) (by rfl) (by omega) ?_ | refine x_not (by rfl) (by rfl) ?_)
      by_cases hb0 : 0 < x.bs.length
      · refine x_gtrT (by rfl) (by rfl) (by rfl) (by omega) ?_
        repeat (first | refine x_move (by rfl) ?_ | refine x_as (by rfl) (by rfl) ?_ | refine x_skip (by rfl) ?_ | refine x_fld (by rfl) (by rfl) FldO.h ?_ | refine x_nilck (by rfl) (by rfl) ?_ | refine x_len (by rfl) (by rfl) ElOf.some ?_ | refine x_ext (by rfl) (by rfl) (by rfl) ?_ | refine x_pickT (by rfl) (by rfl) (by rfl) ?_ | refine x_pickF (by rfl) (by rfl) (by rfl) ?_ | refine x_add (by rfl) (by rfl) (by rfl) (by omega) ?_ | refine x_sub (by rfl) (by rfl) (by rfl) (by omega) ?_ | refine x_not (by rfl) (by rfl) ?_)
        refine x_nilw ?_
        have hpo := hB.pos hb0
        obtain ⟨g, cap, R, hVe, hgb, hc1, hc2, hc3⟩ := hpo
        have hfl : (fl El.cells x.bs).length = x.bs.length * 1 := fl_length el_len _
        have hgB : ∀ b, b = g → isIn x.bv b := fun b hb => by
          show isIn (.slice x.ba x.bs.length x.bc) b
          rw [hVe]
          exact hb
        (repeat (first | refine swp_seq ?_ | refine swp_block ?_))
        refine swp_true (by rfl) ?_
        (repeat (first | refine swp_seq ?_ | refine swp_block ?_)); refine swp_region (by kernel_rfl) ?_
        repeat (first | refine x_move (by rfl) ?_ | refine x_as (by rfl) (by rfl) ?_ | refine x_skip (by rfl) ?_ | refine x_fld (by rfl) (by rfl) FldO.h ?_ | refine x_nilck (by rfl) (by rfl) ?_ | refine x_len (by rfl) (by rfl) ElOf.some ?_ | refine x_ext (by rfl) (by rfl) (by rfl) ?_ | refine x_pickT (by rfl) (by rfl) (by rfl) ?_ | refine x_pickF (by rfl) (by rfl) (by rfl) ?_ | refine x_add (by rfl) (by rfl) (by rfl) (by omega) ?_ | refine x_sub (by rfl) (by rfl) (by rfl) (by omega) ?_ | refine x_not (by rfl) (by rfl) ?_)
        refine w_load (by rfl) (by rfl) (load_one (v := .slice (some ⟨g, 0, none⟩) x.bs.length cap) OneT.h h5 (by rw [← hVe]; rfl)) ?_
        repeat (first | refine x_move (by rfl) ?_ | refine x_as (by rfl) (by rfl) ?_ | refine x_skip (by rfl) ?_ | refine x_fld (by rfl) (by rfl) FldO.h ?_ | refine x_nilck (by rfl) (by rfl) ?_ | refine x_len (by rfl) (by rfl) ElOf.some ?_ | refine x_ext (by rfl) (by rfl) (by rfl) ?_ | refine x_pickT (by rfl) (by rfl) (by rfl) ?_ | refine x_pickF (by rfl) (by rfl) (by rfl) ?_ | refine x_add (by rfl) (by rfl) (by rfl) (by omega) ?_ | refine x_sub (by rfl) (by rfl) (by rfl) (by omega) ?_ | refine x_not (by rfl) (by rfl) ?_)
        refine x_idx 0 (by rfl) (by rfl) (by rfl) ElSz.h rfl hb0 ?_
        refine w_store (xs := [.slice none 0 0]) (by rfl) (by rfl) (by rfl) (by rfl) SzT.h (by rfl) (by rfl) hgb (by rw [List.length_append, hfl]; omega) ?_
        intro w11 u11 _ _
        refine x_nilw ?_
        exact ⟨rfl, at_ ⟨rfl, rfl, rfl, trivial⟩, ⟨hN.get u11 fun b hb hf => dNB b hb (hgB b hf), hL.get u11 fun b hb hf => dLB b hb (hgB b hf), hV.get u11 fun b hb hf => dVB b hb (hgB b hf)⟩, ux.trans (u11.mono fun b hf => inB b (hgB b hf))⟩
      · refine x_gtrF (by rfl) (by rfl) (by rfl) (by omega) ?_
        repeat (first | refine x_move (by rfl) ?_ | refine x_as (by rfl) (by rfl) ?_ | refine x_skip (by rfl) ?_ | refine x_fld (by rfl) (by rfl) FldO.h ?_ | refine x_nilck (by rfl) (by rfl) ?_ | refine x_len (by rfl) (by rfl) ElOf.some ?_ | refine x_ext (by rfl) (by rfl) (by rfl) ?_ | refine x_pickT (by rfl) (by rfl) (by rfl) ?_ | refine x_pickF (by rfl) (by rfl) (by rfl) ?_ | refine x_add (by rfl) (by rfl) (by rfl) (by omega) ?_ | refine x_sub (by rfl) (by rfl) (by rfl) (by omega) ?_ | refine x_not (by rfl) (by rfl) ?_)
        refine x_nilw ?_
        (repeat (first | refine swp_seq ?_ | refine swp_block ?_))
        refine swp_false (by rfl) (swp_skip ?_)
        (repeat (first | with_reducible refine n_then ?_ | with_reducible refine n_block ?_ | with_reducible refine n_jump ?_))
        exact ⟨rfl, at_ ⟨rfl, rfl, rfl, trivial⟩, ⟨hN, hL, hV⟩, ux⟩
    clear hN hL hV hB h5 ux
    rintro σ w11 ⟨⟨ρ, rfl⟩, ⟨hN, hL, hV⟩, ux⟩
    (repeat (first | with_reducible refine n_then ?_ | with_reducible refine n_block ?_ | with_reducible refine n_jump ?_))
    (repeat (first | refine swp_seq ?_ | refine swp_block ?_)); refine swp_region (by kernel_rfl) ?_
    repeat (first | refine x_move (by rfl) ?_ | refine x_as (by rfl) (by rfl) ?_ | refine x_len (by rfl) (by rfl) ElOf.some ?_ | refine x_add (by rfl) (by rfl) (by rfl) (by omega) ?_ | refine x_lss (by rfl) (by rfl) (by rfl) ?_)
    refine x_nilw ?_
    refine ⟨i + 1, ⟨at_ ⟨rfl, rfl, rfl, trivial⟩, hi', fun j y hj hij => y.as.get (hto j y hj (by omega)) ux fun b hb hf => hD j i y x (by omega) hj hxi b hb hf, fun j y hj hij => ?_, hu.trans (ux.mono fun b hb => ⟨x, hxm, hb⟩)⟩, by omega⟩
    by_cases ej : j = i
    · subst ej
      rw [hxi] at hj
      injection hj with hj
      subst hj
      refine ⟨⟨x.m.dec, x.m.na, x.m.nc, C2, x.m.la, x.m.lc, C3, x.m.va, x.m.vc, C4⟩, by simp [Mt.cells, hCl2, hCl3, hCl4], ?_⟩
      have e1 : (Mt.mk x.m.dec x.m.na x.m.nc C2 x.m.la x.m.lc C3 x.m.va x.m.vc C4).ns = x.m.ns := by simp [Mt.ns, hCl2]
      have e2 : (Mt.mk x.m.dec x.m.na x.m.nc C2 x.m.la x.m.lc C3 x.m.va x.m.vc C4).ls = x.m.ls := by simp [Mt.ls, hCl3]
      have e3 : (Mt.mk x.m.dec x.m.na x.m.nc C2 x.m.la x.m.lc C3 x.m.va x.m.vc C4).vs = x.m.vs := by simp [Mt.vs, hCl4]
      refine ⟨?_, ?_, ?_, ?_, ?_, ?_, ⟨?_, ?_, ?_⟩⟩
      · rw [e1]; show Own w11 68 2 x.m.ns C2.length (fl Nm.cells C2); rw [hCl2]; exact hN
      · rw [e2]; show Own w11 3 1 x.m.ls C3.length (fl encN C3); rw [hCl3]; exact hL
      · rw [e3]; show Own w11 70 2 x.m.vs C4.length (fl Vl.cells C4); rw [hCl4]; exact hV
      · rw [e1, e2]; exact dNL
      · rw [e1, e3]; exact dNV
      · rw [e2, e3]; exact dLV
      · show C2.length * 16 ≤ _; rw [hCl2]; exact hsm.m.n
      · show C3.length * 8 ≤ _; rw [hCl3]; exact hsm.m.l
      · show C4.length * 16 ≤ _; rw [hCl4]; exact hsm.m.v
    · obtain ⟨m', hm1, hm2⟩ := hdone j y hj (by omega)
      refine ⟨m', hm1, hm2.get ux fun b hb hf => hD j i y x ej hj hxi b ?_ hf⟩
      simp only [Mt.cells, List.cons.injEq, and_true] at hm1
      obtain ⟨-, q1, q2, q3⟩ := hm1
      rcases hb with hb | hb | hb
      · refine ⟨_, List.mem_of_getElem? (i := 0) rfl, ?_⟩
        show isIn y.m.ns b
        unfold Mt.ns at hb ⊢
        rw [← q1]
        exact hb
      · refine ⟨_, List.mem_of_getElem? (i := 1) rfl, ?_⟩
        show isIn y.m.ls b
        unfold Mt.ls at hb ⊢
        rw [← q2]
        exact hb
      · refine ⟨_, List.mem_of_getElem? (i := 2) rfl, ?_⟩
        show isIn y.m.vs b
        unfold Mt.vs at hb ⊢
        rw [← q3]
        exact hb
  · have hil : i = xs.length := by omega
    refine swp_exit ?_; (repeat (first | with_reducible refine e_then ?_ | with_reducible refine e_jump ?_)); refine e_block ?_; (repeat (first | with_reducible refine n_then ?_ | with_reducible refine n_block ?_ | with_reducible refine n_jump ?_))
    refine post0n rfl ⟨_, rfl, hu, fun x hxm => ?_⟩
    obtain ⟨j, hj, rfl⟩ := List.getElem_of_mem hxm
    exact hdone j _ (List.getElem?_eq_getElem hj) (by omega)
end Go.Proofs.Ytpnigekkbmanlaa
