/- A query once more, and two queries compared. Conditions: what is read; room. -/
import Derived.Test.YtngmlmfkegoghaaDoorTp
namespace Go.Proofs.YtngmlmfkegoghaaDoor
open Sx

section
variable {dr : Bool} {P : Program} {ops : Array Oper} {W : List Nat} {Q : Fr → World → Prop} {k : Nat} {rest : List Oper} {σ : Fr} {C : World → Prop} {d : Nat} {ty : TypeId} {pos : String} {after : Array Edge} {guard : Option (Nat × Bool)}
/-- A call that only makes memory, ahead of loads. -/
theorem f_call {f : FuncId} {args : Array Operand} {ats : Array TypeId} {vs : List Value} {R : World → Value → World → Prop} (hF : isF dr W k (.call ⟨.value (.func f), args, ats⟩) = true) (hw : wantS ops σ ⟨some d, .call ⟨.value (.func f), args, ats⟩, ty, pos, after, guard⟩ = true)
    (hvs : args.toList.map (ev σ) = vs) (hC : ∀ w w', C w → Ext w w' → C w') (hf : ∀ w, C w → Gets P f vs w (R w)) (hR : ∀ w v w', R w v w' → Ext w w') (h : ∀ w v w', C w → R w v w' → xw dr P ops W Q (k + 1) rest (upd σ d v) (Ext w')) : xw dr P ops W Q k (⟨some d, .call ⟨.value (.func f), args, ats⟩, ty, pos, after, guard⟩ :: rest) σ C :=
  x_f hw rfl hF hC fun w hCw => steps_call rfl hvs (hf w hCw) fun v w' hr => ⟨hR w v w' hr, h w v w' hCw hr⟩
end

set_option maxHeartbeats 2000000 in
set_option maxRecDepth 100000 in
theorem twin_query (q : Qr) (w : World) (hq : q.Rdy w) : Gets Tryd.prog 10 [q.v] w fun v w' => ∃ p : Qr, v = p.v ∧ p.Rdy w' ∧ p.says = q.says ∧ Ext w w' := by
  have hsi := hq.si
  have hsr := hq.sr
  refine ⟨GoFn.h, calls_of_swp 55 Tryd.func10 Tryd.ntmps10 rfl (Nat.le_of_ble_eq_true rfl) ?_⟩
  (repeat (first | refine swp_seq ?_ | refine swp_block ?_)); refine swp_region (by kernel_rfl) ?_
  refine w_boxA (by rfl) (by rfl) (by rfl) ?_; intro b1 w1 e1 u1 h1
  refine w_alloc (by rfl) (by rfl) ZeroT.h ?_; intro b2 w2 e2 u2 h2
  replace h1 : Blk w2 b1 29 q.cells := h1.at u2
  have s1 := u1.size; have s2 := u2.size
  refine x_nilw ?_
  have l1 := h1.lt
  have l2 := h2.lt
  (repeat (first | refine swp_seq ?_ | refine swp_block ?_)); refine swp_region (by kernel_rfl) ?_
  refine w_load (by rfl) (by rfl) (load_agg (xs := q.cells) AggT.h h1 (by rfl) (by rfl)) ?_
  refine w_alloc (by rfl) (by rfl) ZeroT.h ?_; intro b3 w3 e3 u3 h3
  refine w_store (xs := q.cells) (by rfl) (by rfl) (by rfl) (by rfl) SzT.h (by rfl) (by rfl) h3 (by simp) ?_
  intro w4 u4 h4 _
  refine x_nilw ?_
  replace h4 : Blk w4 b3 29 q.cells := h4
  have s3 := u3.size; have s4 := u4.size
  (repeat (first | refine swp_seq ?_ | refine swp_block ?_)); refine swp_region (by kernel_rfl) ?_
  repeat (first | refine x_move (by rfl) ?_ | refine x_as (by rfl) (by rfl) ?_ | refine x_skip (by rfl) ?_ | refine x_fld (by rfl) (by rfl) FldO.h ?_ | refine x_nilck (by rfl) (by rfl) ?_ | refine x_len (by rfl) (by rfl) ElOf.some ?_ | refine x_ext (by rfl) (by rfl) (by rfl) ?_ | refine x_pickT (by rfl) (by rfl) (by rfl) ?_ | refine x_pickF (by rfl) (by rfl) (by rfl) ?_ | refine x_add (by rfl) (by rfl) (by rfl) (by omega) ?_ | refine x_sub (by rfl) (by rfl) (by rfl) (by omega) ?_ | refine x_not (by rfl) (by rfl) ?_)
  refine w_store (xs := [.slice none 0 0]) (by rfl) (by rfl) (by rfl) (by rfl) SzT.h (by rfl) (by rfl) h4 (by simp [Qr.cells]) ?_
  intro w5 u5 h5 _
  refine x_nilw ?_
  replace h5 : Blk w5 b3 29 [.slice none 0 0, .int .i64 q.mode, .int .i64 q.after, .slice q.wa q.wh.length q.wc, .int .i64 q.within, S q.by_, .slice q.ra q.ret.length q.rc] := h5
  have l3 := h5.lt
  have s5 := u5.size
  have u25 : Ext w2 w5 := (u3.trans' u4 fun b hb e => by have e' : b = b3 := e; omega).trans' u5 fun b hb e => by have e' : b = b3 := e; omega
  have u05 := (u1.trans u2).trans u25
  replace h1 := h1.at u25
  replace h2 := h2.at u25
  clear h3 h4 u3 u4 u5 s3 s4
  (repeat (first | refine swp_seq ?_ | refine swp_block ?_)); refine swp_region (by kernel_rfl) ?_
  repeat (first | refine x_move (by rfl) ?_ | refine x_as (by rfl) (by rfl) ?_ | refine x_skip (by rfl) ?_ | refine x_fld (by rfl) (by rfl) FldO.h ?_ | refine x_nilck (by rfl) (by rfl) ?_ | refine x_len (by rfl) (by rfl) ElOf.some ?_ | refine x_ext (by rfl) (by rfl) (by rfl) ?_ | refine x_pickT (by rfl) (by rfl) (by rfl) ?_ | refine x_pickF (by rfl) (by rfl) (by rfl) ?_ | refine x_add (by rfl) (by rfl) (by rfl) (by omega) ?_ | refine x_sub (by rfl) (by rfl) (by rfl) (by omega) ?_ | refine x_not (by rfl) (by rfl) ?_)
  refine x_nilw ?_
  refine swp_fit [(1, .pointer (some ⟨b1, 0, none⟩)), (2, .pointer (some ⟨b2, 0, none⟩)), (3, .pointer (some ⟨b3, 0, none⟩)), (4, .int .i64 ((0 : Nat) : Int))] ⟨rfl, rfl, rfl, rfl, trivial⟩ fun ρ => ?_
  refine swp_cutQ (fun σ w' => At σ [(1, .pointer (some ⟨b1, 0, none⟩)), (2, .pointer (some ⟨b2, 0, none⟩)), (3, .pointer (some ⟨b3, 0, none⟩))] ∧ ∃ so out, Blk w' b3 29 [so, .int .i64 q.mode, .int .i64 q.after, .slice q.wa q.wh.length q.wc, .int .i64 q.within, S q.by_, .slice q.ra q.ret.length q.rc] ∧ Lst tIt 55 w5 w' so out ∧ out.map It.says = q.items.map It.says ∧ Upd (fun b => b = b3) w5 w') ?_ ?_
  · (repeat (first | refine swp_seq ?_ | refine swp_block ?_))
    refine swp_loop (fun (i : Nat) σ w' => At σ [(1, .pointer (some ⟨b1, 0, none⟩)), (2, .pointer (some ⟨b2, 0, none⟩)), (3, .pointer (some ⟨b3, 0, none⟩)), (4, .int .i64 (i : Nat))] ∧ i ≤ q.items.length ∧ ∃ so out, Blk w' b3 29 [so, .int .i64 q.mode, .int .i64 q.after, .slice q.wa q.wh.length q.wc, .int .i64 q.within, S q.by_, .slice q.ra q.ret.length q.rc] ∧ Lst tIt 55 w5 w' so out ∧ out.map It.says = (q.items.take i).map It.says ∧ Upd (fun b => b = b3) w5 w') (fun i => q.items.length - i) 0 ⟨at_ ⟨rfl, rfl, rfl, rfl, trivial⟩, by omega, .slice none 0 0, [], h5, Lst.nil _ _ _ _, rfl, Upd.refl _ _⟩ ?_
    clear h5
    rintro i σ w6 ⟨⟨ρ, rfl⟩, hi, so, out, h6, hL, hsay, u6⟩
    have hlo : out.length = i := by have := congrArg List.length hsay; simp at this; omega
    have s6 := u6.size
    have u06 : Ext w w6 := u05.trans' u6 fun b hb e => by have e' : b = b3 := e; omega
    have g1 := h1.get u6 (by omega)
    (repeat (first | refine swp_seq ?_ | refine swp_block ?_)); refine swp_region (by kernel_rfl) ?_
    repeat (first | refine x_move (by rfl) ?_ | refine x_as (by rfl) (by rfl) ?_ | refine x_skip (by rfl) ?_ | refine x_fld (by rfl) (by rfl) FldO.h ?_ | refine x_nilck (by rfl) (by rfl) ?_ | refine x_len (by rfl) (by rfl) ElOf.some ?_ | refine x_ext (by rfl) (by rfl) (by rfl) ?_ | refine x_pickT (by rfl) (by rfl) (by rfl) ?_ | refine x_pickF (by rfl) (by rfl) (by rfl) ?_ | refine x_add (by rfl) (by rfl) (by rfl) (by omega) ?_ | refine x_sub (by rfl) (by rfl) (by rfl) (by omega) ?_ | refine x_not (by rfl) (by rfl) ?_)
    refine w_load (by rfl) (by rfl) (load_one (v := .slice q.ia q.items.length q.ic) OneT.h g1 (by rfl)) ?_
    repeat (first | refine x_move (by rfl) ?_ | refine x_as (by rfl) (by rfl) ?_ | refine x_skip (by rfl) ?_ | refine x_fld (by rfl) (by rfl) FldO.h ?_ | refine w_load (by rfl) (by rfl) (load_one OneT.h (by assumption) (by rfl)) ?_ | refine x_nilck (by rfl) (by rfl) ?_ | refine x_len (by rfl) (by rfl) ElOf.some ?_ | refine x_iface (by rfl) (by rfl) NIf.h ?_ | refine x_ext (by rfl) (by rfl) (by rfl) ?_ | refine x_pickT (by rfl) (by rfl) (by rfl) ?_ | refine x_pickF (by rfl) (by rfl) (by rfl) ?_ | refine x_add (by rfl) (by rfl) (by rfl) (by omega) ?_ | refine x_sub (by rfl) (by rfl) (by rfl) (by omega) ?_ | refine x_lss (by rfl) (by rfl) (by rfl) ?_ | refine x_geq (by rfl) (by rfl) (by rfl) ?_ | refine x_leq (by rfl) (by rfl) (by rfl) ?_ | refine x_gtr (by rfl) (by rfl) (by rfl) ?_ | refine x_eql (by rfl) (by rfl) (by rfl) ?_ | refine x_neq (by rfl) (by rfl) (by rfl) ?_ | refine x_not (by rfl) (by rfl) ?_)
    refine x_nilw ?_
    (repeat (first | refine swp_seq ?_ | refine swp_block ?_))
    refine swp_if (by rfl) (fun h0 => swp_skip ?_) (fun h0 => ?_)
    · have hi' : i < q.items.length := by omega
      obtain ⟨x, hx⟩ := nthE hi'
      have rI := hq.it.at u06
      have xR := (hq.its x (List.mem_of_getElem? hx)).at u06
      obtain ⟨ba, oa, da, hea, -, -⟩ := rI.pos (by omega)
      simp only [Value.slice.injEq] at hea
      obtain ⟨ea, _, rfl⟩ := hea
      rw [ea] at rI
      have g1' : Blk w6 b1 29 [.slice (some ⟨ba, oa, none⟩) q.items.length q.ic, .int .i64 q.mode, .int .i64 q.after, .slice q.wa q.wh.length q.wc, .int .i64 q.within, S q.by_, .slice q.ra q.ret.length q.rc] := by rw [← ea]; exact g1
      (repeat (first | with_reducible refine n_then ?_ | with_reducible refine n_block ?_ | with_reducible refine n_jump ?_))
      (repeat (first | refine swp_seq ?_ | refine swp_block ?_)); refine swp_region (by kernel_rfl) ?_
      repeat (first | refine x_move (by rfl) ?_ | refine x_as (by rfl) (by rfl) ?_ | refine x_skip (by rfl) ?_ | refine x_fld (by rfl) (by rfl) FldO.h ?_ | refine x_nilck (by rfl) (by rfl) ?_ | refine x_len (by rfl) (by rfl) ElOf.some ?_ | refine x_ext (by rfl) (by rfl) (by rfl) ?_ | refine x_pickT (by rfl) (by rfl) (by rfl) ?_ | refine x_pickF (by rfl) (by rfl) (by rfl) ?_ | refine x_add (by rfl) (by rfl) (by rfl) (by omega) ?_ | refine x_sub (by rfl) (by rfl) (by rfl) (by omega) ?_ | refine x_not (by rfl) (by rfl) ?_)
      refine w_load (by rfl) (by rfl) (load_one (v := .slice (some ⟨ba, oa, none⟩) q.items.length q.ic) OneT.h g1' (by rfl)) ?_
      repeat (first | refine x_move (by rfl) ?_ | refine x_as (by rfl) (by rfl) ?_ | refine x_skip (by rfl) ?_ | refine x_fld (by rfl) (by rfl) FldO.h ?_ | refine x_nilck (by rfl) (by rfl) ?_ | refine x_len (by rfl) (by rfl) ElOf.some ?_ | refine x_ext (by rfl) (by rfl) (by rfl) ?_ | refine x_pickT (by rfl) (by rfl) (by rfl) ?_ | refine x_pickF (by rfl) (by rfl) (by rfl) ?_ | refine x_add (by rfl) (by rfl) (by rfl) (by omega) ?_ | refine x_sub (by rfl) (by rfl) (by rfl) (by omega) ?_ | refine x_not (by rfl) (by rfl) ?_)
      refine x_idx i (by rfl) (by rfl) (by rfl) ElSz.h rfl hi' ?_
      refine w_load (by rfl) (by rfl) (rd_load it_len AggT.h rI hx rfl rfl) ?_
      refine w_alloc (by rfl) (by rfl) ZeroT.h ?_; intro b7 w7 e7 u7 h7
      refine w_store (xs := x.cells) (by rfl) (by rfl) (by rfl) (by rfl) SzT.h (by rfl) (by rfl) h7 (by simp) ?_
      intro w8 u8 h8 _
      refine x_nilw ?_
      replace h8 : Blk w8 b7 55 x.cells := h8
      have u68 : Ext w6 w8 := u7.trans' u8 fun b hb e => by have e' : b = b7 := e; omega
      have s7 := u7.size; have s8 := u8.size
      have l7 := h8.lt
      refine swp_fit [(1, .pointer (some ⟨b1, 0, none⟩)), (2, .pointer (some ⟨b2, 0, none⟩)), (3, .pointer (some ⟨b3, 0, none⟩)), (4, .int .i64 (i : Nat)), (5, .pointer (some ⟨b7, 0, none⟩))] ⟨rfl, rfl, rfl, rfl, rfl, trivial⟩ fun ρ => ?_
      (repeat (first | refine swp_seq ?_ | refine swp_block ?_)); refine swp_region (by kernel_rfl) ?_
      repeat (first | refine x_move (by rfl) ?_ | refine x_as (by rfl) (by rfl) ?_ | refine x_skip (by rfl) ?_ | refine x_fld (by rfl) (by rfl) FldO.h ?_ | refine x_nilck (by rfl) (by rfl) ?_ | refine x_len (by rfl) (by rfl) ElOf.some ?_ | refine x_ext (by rfl) (by rfl) (by rfl) ?_ | refine x_pickT (by rfl) (by rfl) (by rfl) ?_ | refine x_pickF (by rfl) (by rfl) (by rfl) ?_ | refine x_add (by rfl) (by rfl) (by rfl) (by omega) ?_ | refine x_sub (by rfl) (by rfl) (by rfl) (by omega) ?_ | refine x_not (by rfl) (by rfl) ?_)
      refine w_load (by rfl) (by rfl) (load_one (v := .slice x.ta x.types.length x.tc) OneT.h h8 (by rfl)) ?_
      refine w_call (by rfl) (by rfl) (by rfl) (twin_texts (xR.at u68).rd xR.sm) ?_
      rintro tv w9 ⟨ownT, newT, u9⟩
      obtain ⟨ta, tc, rfl⟩ := ownT.slice
      repeat (first | refine x_move (by rfl) ?_ | refine x_as (by rfl) (by rfl) ?_ | refine x_skip (by rfl) ?_ | refine x_fld (by rfl) (by rfl) FldO.h ?_ | refine x_nilck (by rfl) (by rfl) ?_ | refine x_len (by rfl) (by rfl) ElOf.some ?_ | refine x_ext (by rfl) (by rfl) (by rfl) ?_ | refine x_pickT (by rfl) (by rfl) (by rfl) ?_ | refine x_pickF (by rfl) (by rfl) (by rfl) ?_ | refine x_add (by rfl) (by rfl) (by rfl) (by omega) ?_ | refine x_sub (by rfl) (by rfl) (by rfl) (by omega) ?_ | refine x_not (by rfl) (by rfl) ?_)
      refine w_store (xs := [.slice ta x.types.length tc]) (by rfl) (by rfl) (by rfl) (by rfl) SzT.h (by rfl) (by rfl) (h8.at u9) (by simp [It.cells]) ?_
      intro w10 u10 h10 _
      refine x_nilw ?_
      obtain ⟨y, hy⟩ : ∃ y : It, y = ⟨x.neg, ta, tc, x.types, x.var, x.lo, x.hi⟩ := ⟨_, rfl⟩
      replace h10 : Blk w10 b7 55 y.cells := by rw [hy]; exact h10
      have s9 := u9.size; have s10 := u10.size
      have u610 : Ext w6 w10 := (u68.trans u9).trans' u10 fun b hb e => by have e' : b = b7 := e; omega
      have yR : y.Rdy w10 := by
        rw [hy]
        exact ⟨(ownT.get u10 fun b hb e => by have := newT b hb; have e' : b = b7 := e; omega).rd, xR.sm⟩
      have yn : ∀ b, y.In b → w6.heap.size ≤ b := fun b hb => by
        rw [hy] at hb
        have := newT b hb.2
        omega
      have ysay : y.says = x.says := by rw [hy]; rfl
      have h6' := h6.at u610
      obtain ⟨asq, cs, rfl⟩ := hL.own.slice
      refine swp_fit [(1, .pointer (some ⟨b1, 0, none⟩)), (2, .pointer (some ⟨b2, 0, none⟩)), (3, .pointer (some ⟨b3, 0, none⟩)), (4, .int .i64 (i : Nat)), (5, .pointer (some ⟨b7, 0, none⟩))] ⟨rfl, rfl, rfl, rfl, rfl, trivial⟩ fun ρ => ?_
      (repeat (first | refine swp_seq ?_ | refine swp_block ?_)); refine swp_region (by kernel_rfl) ?_
      repeat (first | refine x_move (by rfl) ?_ | refine x_as (by rfl) (by rfl) ?_ | refine x_skip (by rfl) ?_ | refine x_fld (by rfl) (by rfl) FldO.h ?_ | refine x_nilck (by rfl) (by rfl) ?_ | refine x_len (by rfl) (by rfl) ElOf.some ?_ | refine x_ext (by rfl) (by rfl) (by rfl) ?_ | refine x_pickT (by rfl) (by rfl) (by rfl) ?_ | refine x_pickF (by rfl) (by rfl) (by rfl) ?_ | refine x_add (by rfl) (by rfl) (by rfl) (by omega) ?_ | refine x_sub (by rfl) (by rfl) (by rfl) (by omega) ?_ | refine x_not (by rfl) (by rfl) ?_)
      refine w_load (by rfl) (by rfl) (load_one (v := .slice asq out.length cs) OneT.h h6' (by rfl)) ?_
      refine w_load (by rfl) (by rfl) (load_agg (xs := y.cells) AggT.h h10 (by rfl) (by rfl)) ?_
      refine w_bslice (e := 55) (cs := y.cells) (by rfl) (by rfl) (by rfl) (by kernel_rfl) ?_
      intro b11 w11 e11 u11 h11
      have u611 := u610.trans u11
      refine w_append (more := []) (news := y.cells) (by rfl) (by rfl) (by rfl) (by rfl) SlC.h (hL.own.at u611) (by rw [List.append_nil]; exact h11) (it_len _) (it_one _) (by omega) ((room_of hsi (by omega)).le (by omega)) ?_
      intro so' w12 hown12 u12 hin12
      have hL12 := hL.push (T := tIt) s6 (tIt.at yR u11) yn u611 hown12 u12 hin12
      obtain ⟨asq2, cs2, rfl⟩ := hown12.slice
      have h12 := (h6'.at u11).get u12 fun h => by have := hL.new b3 h; omega
      repeat (first | refine x_move (by rfl) ?_ | refine x_as (by rfl) (by rfl) ?_ | refine x_skip (by rfl) ?_ | refine x_fld (by rfl) (by rfl) FldO.h ?_ | refine x_nilck (by rfl) (by rfl) ?_ | refine x_len (by rfl) (by rfl) ElOf.some ?_ | refine x_ext (by rfl) (by rfl) (by rfl) ?_ | refine x_pickT (by rfl) (by rfl) (by rfl) ?_ | refine x_pickF (by rfl) (by rfl) (by rfl) ?_ | refine x_add (by rfl) (by rfl) (by rfl) (by omega) ?_ | refine x_sub (by rfl) (by rfl) (by rfl) (by omega) ?_ | refine x_not (by rfl) (by rfl) ?_)
      refine w_store (xs := [.slice asq2 (out.length + 1) cs2]) (by rfl) (by rfl) (by rfl) (by rfl) SzT.h (by rfl) (by rfl) h12 (by simp) ?_
      intro w13 u13 h13 _
      refine x_nilw ?_
      (repeat (first | with_reducible refine n_then ?_ | with_reducible refine n_block ?_ | with_reducible refine n_jump ?_))
      (repeat (first | refine swp_seq ?_ | refine swp_block ?_)); refine swp_region (by kernel_rfl) ?_
      repeat (first | refine x_move (by rfl) ?_ | refine x_as (by rfl) (by rfl) ?_ | refine x_skip (by rfl) ?_ | refine x_fld (by rfl) (by rfl) FldO.h ?_ | refine w_load (by rfl) (by rfl) (load_one OneT.h (by assumption) (by rfl)) ?_ | refine x_nilck (by rfl) (by rfl) ?_ | refine x_len (by rfl) (by rfl) ElOf.some ?_ | refine x_iface (by rfl) (by rfl) NIf.h ?_ | refine x_ext (by rfl) (by rfl) (by rfl) ?_ | refine x_pickT (by rfl) (by rfl) (by rfl) ?_ | refine x_pickF (by rfl) (by rfl) (by rfl) ?_ | refine x_add (by rfl) (by rfl) (by rfl) (by omega) ?_ | refine x_sub (by rfl) (by rfl) (by rfl) (by omega) ?_ | refine x_lss (by rfl) (by rfl) (by rfl) ?_ | refine x_geq (by rfl) (by rfl) (by rfl) ?_ | refine x_leq (by rfl) (by rfl) (by rfl) ?_ | refine x_gtr (by rfl) (by rfl) (by rfl) ?_ | refine x_eql (by rfl) (by rfl) (by rfl) ?_ | refine x_neq (by rfl) (by rfl) (by rfl) ?_ | refine x_not (by rfl) (by rfl) ?_)
      refine x_nilw ?_
      refine ⟨i + 1, ⟨at_ ⟨rfl, rfl, rfl, rfl, trivial⟩, hi', .slice asq2 (out.length + 1) cs2, out ++ [y], h13, hL12.get u13 fun b hb _ e => by have e' : b = b3 := e; omega, ?_, ((u6.ext u611).trans' u12 fun b hb h => by have := hL.new b h; omega).trans' u13 fun b _ h => h⟩, by omega⟩
      rw [List.map_append, hsay, take_succ' hx, List.map_append]
      simp [ysay]
    · have hin : i = q.items.length := by omega
      rw [hin, List.take_length] at hsay
      refine swp_exit ?_; (repeat (first | with_reducible refine e_then ?_ | with_reducible refine e_jump ?_)); refine e_block ?_; (repeat (first | with_reducible refine n_then ?_ | with_reducible refine n_block ?_ | with_reducible refine n_jump ?_))
      exact ⟨rfl, at_ ⟨rfl, rfl, rfl, trivial⟩, so, out, h6, hL, hsay, u6⟩
  rintro σ w6 ⟨⟨ρ, rfl⟩, so, out, h6, hL, hsay, u6⟩
  refine n_then ?_
  have s6 := u6.size
  have u06 : Ext w w6 := u05.trans' u6 fun b hb e => by have e' : b = b3 := e; omega
  have g1 : Blk w6 b1 29 q.cells := h1.get u6 (by omega)
  have g2 := h2.get u6 (by omega)
  have hlo : out.length = q.items.length := by have := congrArg List.length hsay; simpa using this
  obtain ⟨asq, cs, rfl⟩ := hL.own.slice
  (repeat (first | refine swp_seq ?_ | refine swp_block ?_)); refine swp_region (by kernel_rfl) ?_
  repeat (first | refine x_move (by rfl) ?_ | refine x_as (by rfl) (by rfl) ?_ | refine x_skip (by rfl) ?_ | refine x_fld (by rfl) (by rfl) FldO.h ?_ | refine x_nilck (by rfl) (by rfl) ?_ | refine x_len (by rfl) (by rfl) ElOf.some ?_ | refine x_ext (by rfl) (by rfl) (by rfl) ?_ | refine x_pickT (by rfl) (by rfl) (by rfl) ?_ | refine x_pickF (by rfl) (by rfl) (by rfl) ?_ | refine x_add (by rfl) (by rfl) (by rfl) (by omega) ?_ | refine x_sub (by rfl) (by rfl) (by rfl) (by omega) ?_ | refine x_not (by rfl) (by rfl) ?_)
  refine w_load (by rfl) (by rfl) (load_one (v := .slice q.wa q.wh.length q.wc) OneT.h g1 (by rfl)) ?_
  refine w_call (by rfl) (by rfl) (by rfl) (twin_tree (hq.wh.at u06) hq.sw) ?_
  rintro tv w7 ⟨ownW, newW, u7⟩
  obtain ⟨wa, wc, rfl⟩ := ownW.slice
  repeat (first | refine x_move (by rfl) ?_ | refine x_as (by rfl) (by rfl) ?_ | refine x_skip (by rfl) ?_ | refine x_fld (by rfl) (by rfl) FldO.h ?_ | refine x_nilck (by rfl) (by rfl) ?_ | refine x_len (by rfl) (by rfl) ElOf.some ?_ | refine x_ext (by rfl) (by rfl) (by rfl) ?_ | refine x_pickT (by rfl) (by rfl) (by rfl) ?_ | refine x_pickF (by rfl) (by rfl) (by rfl) ?_ | refine x_add (by rfl) (by rfl) (by rfl) (by omega) ?_ | refine x_sub (by rfl) (by rfl) (by rfl) (by omega) ?_ | refine x_not (by rfl) (by rfl) ?_)
  refine w_store (xs := [.slice wa q.wh.length wc]) (by rfl) (by rfl) (by rfl) (by rfl) SzT.h (by rfl) (by rfl) (h6.at u7) (by simp) ?_
  intro w8 u8 h8 _
  refine x_nilw ?_
  replace h8 : Blk w8 b3 29 [.slice asq out.length cs, .int .i64 q.mode, .int .i64 q.after, .slice wa q.wh.length wc, .int .i64 q.within, S q.by_, .slice q.ra q.ret.length q.rc] := h8
  have s7 := u7.size; have s8 := u8.size
  (repeat (first | refine swp_seq ?_ | refine swp_block ?_)); refine swp_region (by kernel_rfl) ?_
  repeat (first | refine x_move (by rfl) ?_ | refine x_as (by rfl) (by rfl) ?_ | refine x_skip (by rfl) ?_ | refine x_fld (by rfl) (by rfl) FldO.h ?_ | refine x_nilck (by rfl) (by rfl) ?_ | refine x_len (by rfl) (by rfl) ElOf.some ?_ | refine x_ext (by rfl) (by rfl) (by rfl) ?_ | refine x_pickT (by rfl) (by rfl) (by rfl) ?_ | refine x_pickF (by rfl) (by rfl) (by rfl) ?_ | refine x_add (by rfl) (by rfl) (by rfl) (by omega) ?_ | refine x_sub (by rfl) (by rfl) (by rfl) (by omega) ?_ | refine x_not (by rfl) (by rfl) ?_)
  refine w_store (xs := [.slice none 0 0]) (by rfl) (by rfl) (by rfl) (by rfl) SzT.h (by rfl) (by rfl) h8 (by simp) ?_
  intro w9 u9 h9 _
  refine x_nilw ?_
  replace h9 : Blk w9 b3 29 [.slice asq out.length cs, .int .i64 q.mode, .int .i64 q.after, .slice wa q.wh.length wc, .int .i64 q.within, S q.by_, .slice none 0 0] := h9
  have s9 := u9.size
  have hL9 : Lst tIt 55 w5 w9 (.slice asq out.length cs) out := ((hL.at u7).get u8 fun b hb _ e => by have e' : b = b3 := e; omega).get u9 fun b hb _ e => by have e' : b = b3 := e; omega
  have ownW9 : Own w9 80 6 (.slice wa q.wh.length wc) q.wh.length (fl Nd.cells q.wh) := (ownW.get u8 fun b hb e => by have := newW b hb; have e' : b = b3 := e; omega).get u9 fun b hb e => by have := newW b hb; have e' : b = b3 := e; omega
  have u59 : Upd (fun b => b = b3) w5 w9 := ((u6.ext u7).trans' u8 fun b _ h => h).trans' u9 fun b _ h => h
  have k1 : Blk w9 b1 29 q.cells := h1.get u59 (by omega)
  have k2 := h2.get u59 (by omega)
  have newW9 : ∀ b, isIn (.slice wa q.wh.length wc) b → w5.heap.size ≤ b := fun b hb => by have := newW b hb; omega
  clear h8 h6 hL ownW u7 u8 u9 newW g1 g2 u6 u06
  (repeat (first | refine swp_seq ?_ | refine swp_block ?_)); refine swp_region (by kernel_rfl) ?_
  repeat (first | refine x_move (by rfl) ?_ | refine x_as (by rfl) (by rfl) ?_ | refine x_skip (by rfl) ?_ | refine x_fld (by rfl) (by rfl) FldO.h ?_ | refine x_nilck (by rfl) (by rfl) ?_ | refine x_len (by rfl) (by rfl) ElOf.some ?_ | refine x_ext (by rfl) (by rfl) (by rfl) ?_ | refine x_pickT (by rfl) (by rfl) (by rfl) ?_ | refine x_pickF (by rfl) (by rfl) (by rfl) ?_ | refine x_add (by rfl) (by rfl) (by rfl) (by omega) ?_ | refine x_sub (by rfl) (by rfl) (by rfl) (by omega) ?_ | refine x_not (by rfl) (by rfl) ?_)
  refine x_nilw ?_
  refine swp_fit [(1, .pointer (some ⟨b1, 0, none⟩)), (2, .pointer (some ⟨b2, 0, none⟩)), (3, .pointer (some ⟨b3, 0, none⟩)), (6, .int .i64 ((0 : Nat) : Int))] ⟨rfl, rfl, rfl, rfl, trivial⟩ fun ρ => ?_
  (repeat (first | refine swp_seq ?_ | refine swp_block ?_))
  refine swp_loop (fun (i : Nat) σ w' => At σ [(1, .pointer (some ⟨b1, 0, none⟩)), (2, .pointer (some ⟨b2, 0, none⟩)), (3, .pointer (some ⟨b3, 0, none⟩)), (6, .int .i64 (i : Nat))] ∧ i ≤ q.ret.length ∧ ∃ sr rout, Blk w' b3 29 [.slice asq out.length cs, .int .i64 q.mode, .int .i64 q.after, .slice wa q.wh.length wc, .int .i64 q.within, S q.by_, sr] ∧ Lst tTr 26 w9 w' sr rout ∧ rout.map Tr.ns = (q.ret.take i).map Tr.ns ∧ Upd (fun b => b = b3) w9 w') (fun i => q.ret.length - i) 0 ⟨at_ ⟨rfl, rfl, rfl, rfl, trivial⟩, by omega, .slice none 0 0, [], h9, Lst.nil _ _ _ _, rfl, Upd.refl _ _⟩ ?_
  clear h9
  rintro i σ w10 ⟨⟨ρ, rfl⟩, hi, sr, rout, h10, hR, hrsay, u10⟩
  have hlr : rout.length = i := by have := congrArg List.length hrsay; simp at this; omega
  have s10 := u10.size
  have u510 : Upd (fun b => b = b3) w5 w10 := u59.trans' u10 fun b _ h => h
  have u010 : Ext w w10 := u05.trans' u510 fun b hb e => by have e' : b = b3 := e; omega
  have g1 : Blk w10 b1 29 q.cells := k1.get u10 (by omega)
  (repeat (first | refine swp_seq ?_ | refine swp_block ?_)); refine swp_region (by kernel_rfl) ?_
  repeat (first | refine x_move (by rfl) ?_ | refine x_as (by rfl) (by rfl) ?_ | refine x_skip (by rfl) ?_ | refine x_fld (by rfl) (by rfl) FldO.h ?_ | refine x_nilck (by rfl) (by rfl) ?_ | refine x_len (by rfl) (by rfl) ElOf.some ?_ | refine x_ext (by rfl) (by rfl) (by rfl) ?_ | refine x_pickT (by rfl) (by rfl) (by rfl) ?_ | refine x_pickF (by rfl) (by rfl) (by rfl) ?_ | refine x_add (by rfl) (by rfl) (by rfl) (by omega) ?_ | refine x_sub (by rfl) (by rfl) (by rfl) (by omega) ?_ | refine x_not (by rfl) (by rfl) ?_)
  refine w_load (by rfl) (by rfl) (load_one (v := .slice q.ra q.ret.length q.rc) OneT.h g1 (by rfl)) ?_
  repeat (first | refine x_move (by rfl) ?_ | refine x_as (by rfl) (by rfl) ?_ | refine x_skip (by rfl) ?_ | refine x_fld (by rfl) (by rfl) FldO.h ?_ | refine w_load (by rfl) (by rfl) (load_one OneT.h (by assumption) (by rfl)) ?_ | refine x_nilck (by rfl) (by rfl) ?_ | refine x_len (by rfl) (by rfl) ElOf.some ?_ | refine x_iface (by rfl) (by rfl) NIf.h ?_ | refine x_ext (by rfl) (by rfl) (by rfl) ?_ | refine x_pickT (by rfl) (by rfl) (by rfl) ?_ | refine x_pickF (by rfl) (by rfl) (by rfl) ?_ | refine x_add (by rfl) (by rfl) (by rfl) (by omega) ?_ | refine x_sub (by rfl) (by rfl) (by rfl) (by omega) ?_ | refine x_lss (by rfl) (by rfl) (by rfl) ?_ | refine x_geq (by rfl) (by rfl) (by rfl) ?_ | refine x_leq (by rfl) (by rfl) (by rfl) ?_ | refine x_gtr (by rfl) (by rfl) (by rfl) ?_ | refine x_eql (by rfl) (by rfl) (by rfl) ?_ | refine x_neq (by rfl) (by rfl) (by rfl) ?_ | refine x_not (by rfl) (by rfl) ?_)
  refine x_nilw ?_
  (repeat (first | refine swp_seq ?_ | refine swp_block ?_))
  refine swp_if (by rfl) (fun h0 => swp_skip ?_) (fun h0 => ?_)
  · have hi' : i < q.ret.length := by omega
    obtain ⟨x, hx⟩ := nthE hi'
    have rI := hq.rt.at u010
    have xR := (hq.rts x (List.mem_of_getElem? hx)).at u010
    obtain ⟨ba, oa, da, hea, -, -⟩ := rI.pos (by omega)
    simp only [Value.slice.injEq] at hea
    obtain ⟨ea, _, rfl⟩ := hea
    rw [ea] at rI
    have g1' : Blk w10 b1 29 [.slice q.ia q.items.length q.ic, .int .i64 q.mode, .int .i64 q.after, .slice q.wa q.wh.length q.wc, .int .i64 q.within, S q.by_, .slice (some ⟨ba, oa, none⟩) q.ret.length q.rc] := by rw [← ea]; exact g1
    obtain ⟨ar, cr, rfl⟩ := hR.own.slice
    (repeat (first | with_reducible refine n_then ?_ | with_reducible refine n_block ?_ | with_reducible refine n_jump ?_))
    (repeat (first | refine swp_seq ?_ | refine swp_block ?_)); refine swp_draw (Ext w10) [7, 1007, 1008] Mixed.h (by kernel_rfl) (by kernel_rfl) (ext_drew w10) ?_
    repeat (first | refine x_move (by rfl) ?_ | refine x_as (by rfl) (by rfl) ?_ | refine x_skip (by rfl) ?_ | refine x_fld (by rfl) (by rfl) FldO.h ?_ | refine x_nilck (by rfl) (by rfl) ?_ | refine x_len (by rfl) (by rfl) ElOf.some ?_ | refine x_ext (by rfl) (by rfl) (by rfl) ?_ | refine x_pickT (by rfl) (by rfl) (by rfl) ?_ | refine x_pickF (by rfl) (by rfl) (by rfl) ?_ | refine x_add (by rfl) (by rfl) (by rfl) (by omega) ?_ | refine x_sub (by rfl) (by rfl) (by rfl) (by omega) ?_ | refine x_not (by rfl) (by rfl) ?_)
    refine q_load (by rfl) (by rfl) (by rfl) (fun w' hw' => load_one (v := .slice ar rout.length cr) OneT.h (h10.at hw') (by rfl)) ?_
    repeat (first | refine x_move (by rfl) ?_ | refine x_as (by rfl) (by rfl) ?_ | refine x_skip (by rfl) ?_ | refine x_fld (by rfl) (by rfl) FldO.h ?_ | refine x_nilck (by rfl) (by rfl) ?_ | refine x_len (by rfl) (by rfl) ElOf.some ?_ | refine x_ext (by rfl) (by rfl) (by rfl) ?_ | refine x_pickT (by rfl) (by rfl) (by rfl) ?_ | refine x_pickF (by rfl) (by rfl) (by rfl) ?_ | refine x_add (by rfl) (by rfl) (by rfl) (by omega) ?_ | refine x_sub (by rfl) (by rfl) (by rfl) (by omega) ?_ | refine x_not (by rfl) (by rfl) ?_)
    refine q_load (by rfl) (by rfl) (by rfl) (fun w' hw' => load_one (v := .slice (some ⟨ba, oa, none⟩) q.ret.length q.rc) OneT.h (g1'.at hw') (by rfl)) ?_
    repeat (first | refine x_move (by rfl) ?_ | refine x_as (by rfl) (by rfl) ?_ | refine x_skip (by rfl) ?_ | refine x_fld (by rfl) (by rfl) FldO.h ?_ | refine x_nilck (by rfl) (by rfl) ?_ | refine x_len (by rfl) (by rfl) ElOf.some ?_ | refine x_ext (by rfl) (by rfl) (by rfl) ?_ | refine x_pickT (by rfl) (by rfl) (by rfl) ?_ | refine x_pickF (by rfl) (by rfl) (by rfl) ?_ | refine x_add (by rfl) (by rfl) (by rfl) (by omega) ?_ | refine x_sub (by rfl) (by rfl) (by rfl) (by omega) ?_ | refine x_not (by rfl) (by rfl) ?_)
    refine x_idx i (by rfl) (by rfl) (by rfl) ElSz.h rfl hi' ?_
    refine q_load (by rfl) (by rfl) (by rfl) (fun w' hw' => load_one_cell OneT.h (rd_cell (v := .slice x.a x.ns.length x.c) (j := 0) tr_len (rI.at hw') hx rfl rfl rfl)) ?_
    refine f_call (by rfl) (by rfl) (by rfl) (fun _ _ h u => Upd.trans h u) (fun w' hw' => twin_tree (xR.at hw').rd xR.sm) (fun w' v w'' h => h.2.2) ?_
    rintro w11 tv w12 u11 ⟨ownX, newX, u12⟩
    obtain ⟨xa, xc, rfl⟩ := ownX.slice
    obtain ⟨y, hy⟩ : ∃ y : Tr, y = ⟨xa, xc, x.ns⟩ := ⟨_, rfl⟩
    refine f_bslice (e := 26) (cs := [.slice xa x.ns.length xc]) (by rfl) (by rfl) (by rfl) (by kernel_rfl) (fun _ _ h u => Upd.trans h u) ?_
    intro v1 c2 v2 q1 f2 q2 k2'
    refine x_fix (by rfl) (by rfl) (by rfl) fun v3 q3 => ?_
    have q123 := (q1.trans q2).trans q3
    have uA : Ext w10 v3 := ((Upd.trans u11 u12).trans q123)
    have yR : y.Rdy v3 := by rw [hy]; exact ⟨(ownX.at q123).rd, xR.sm⟩
    have s11 := u11.size
    have yn : ∀ b, y.In b → w10.heap.size ≤ b := fun b hb => by
      rw [hy] at hb
      have := newX b hb.2
      omega
    refine w_append (more := []) (news := y.cells) (by rfl) (by rfl) (by rfl) (by rfl) SlC.h (hR.own.at uA) (by rw [List.append_nil, hy]; exact k2'.at q3) (tr_len _) (by rw [hy]; rfl) (by omega) ((room_of hsr (by omega)).le (by omega)) ?_
    intro sr' w13 hown13 u13 hin13
    have hR13 := hR.push (T := tTr) s10 yR yn uA hown13 u13 hin13
    obtain ⟨ar2, cr2, rfl⟩ := hown13.slice
    have h13 := (h10.at uA).get u13 fun h => by have := hR.new b3 h; omega
    repeat (first | refine x_move (by rfl) ?_ | refine x_as (by rfl) (by rfl) ?_ | refine x_skip (by rfl) ?_ | refine x_fld (by rfl) (by rfl) FldO.h ?_ | refine x_nilck (by rfl) (by rfl) ?_ | refine x_len (by rfl) (by rfl) ElOf.some ?_ | refine x_ext (by rfl) (by rfl) (by rfl) ?_ | refine x_pickT (by rfl) (by rfl) (by rfl) ?_ | refine x_pickF (by rfl) (by rfl) (by rfl) ?_ | refine x_add (by rfl) (by rfl) (by rfl) (by omega) ?_ | refine x_sub (by rfl) (by rfl) (by rfl) (by omega) ?_ | refine x_not (by rfl) (by rfl) ?_)
    refine w_store (xs := [.slice ar2 (rout.length + 1) cr2]) (by rfl) (by rfl) (by rfl) (by rfl) SzT.h (by rfl) (by rfl) h13 (by simp) ?_
    intro w14 u14 h14 _
    refine x_nilw ?_
    (repeat (first | with_reducible refine n_then ?_ | with_reducible refine n_block ?_ | with_reducible refine n_jump ?_))
    (repeat (first | refine swp_seq ?_ | refine swp_block ?_)); refine swp_region (by kernel_rfl) ?_
    repeat (first | refine x_move (by rfl) ?_ | refine x_as (by rfl) (by rfl) ?_ | refine x_skip (by rfl) ?_ | refine x_fld (by rfl) (by rfl) FldO.h ?_ | refine w_load (by rfl) (by rfl) (load_one OneT.h (by assumption) (by rfl)) ?_ | refine x_nilck (by rfl) (by rfl) ?_ | refine x_len (by rfl) (by rfl) ElOf.some ?_ | refine x_iface (by rfl) (by rfl) NIf.h ?_ | refine x_ext (by rfl) (by rfl) (by rfl) ?_ | refine x_pickT (by rfl) (by rfl) (by rfl) ?_ | refine x_pickF (by rfl) (by rfl) (by rfl) ?_ | refine x_add (by rfl) (by rfl) (by rfl) (by omega) ?_ | refine x_sub (by rfl) (by rfl) (by rfl) (by omega) ?_ | refine x_lss (by rfl) (by rfl) (by rfl) ?_ | refine x_geq (by rfl) (by rfl) (by rfl) ?_ | refine x_leq (by rfl) (by rfl) (by rfl) ?_ | refine x_gtr (by rfl) (by rfl) (by rfl) ?_ | refine x_eql (by rfl) (by rfl) (by rfl) ?_ | refine x_neq (by rfl) (by rfl) (by rfl) ?_ | refine x_not (by rfl) (by rfl) ?_)
    refine x_nilw ?_
    refine ⟨i + 1, ⟨at_ ⟨rfl, rfl, rfl, rfl, trivial⟩, hi', .slice ar2 (rout.length + 1) cr2, rout ++ [y], h14, hR13.get u14 fun b hb _ e => by have e' : b = b3 := e; omega, ?_, ((u10.ext uA).trans' u13 fun b hb h => by have := hR.new b h; omega).trans' u14 fun b _ h => h⟩, by omega⟩
    rw [List.map_append, hrsay, take_succ' hx, List.map_append, hy]
    rfl
  · have hin : i = q.ret.length := by omega
    rw [hin, List.take_length] at hrsay
    obtain ⟨ar, cr, rfl⟩ := hR.own.slice
    have hlr' : rout.length = q.ret.length := by omega
    have hL10 := hL9.get u10 fun b hb _ e => by have e' : b = b3 := e; omega
    have ownW10 := ownW9.get u10 fun b hb e => by have := newW9 b hb; have e' : b = b3 := e; omega
    obtain ⟨p, hp⟩ : ∃ p : Qr, p = ⟨asq, cs, out, q.mode, q.after, wa, wc, q.wh, q.within, q.by_, ar, cr, rout⟩ := ⟨_, rfl⟩
    replace h10 : Blk w10 b3 29 p.cells := by rw [hp]; exact h10
    have g2 := k2.get u10 (by omega)
    refine swp_exit ?_; (repeat (first | with_reducible refine e_then ?_ | with_reducible refine e_jump ?_)); refine e_block ?_; (repeat (first | with_reducible refine n_then ?_ | with_reducible refine n_block ?_ | with_reducible refine n_jump ?_))
    (repeat (first | refine swp_seq ?_ | refine swp_block ?_)); refine swp_region (by kernel_rfl) ?_
    refine w_load (by rfl) (by rfl) (load_agg (xs := p.cells) AggT.h h10 (by rfl) (by rfl)) ?_
    refine w_store (xs := p.cells) (by rfl) (by rfl) (by rfl) (by rfl) SzT.h (by rfl) (by rfl) g2 (by simp) ?_
    intro w11 u11 h11 _
    refine x_nilw ?_
    refine swp_ret ?_; (repeat (first | with_reducible refine r_then ?_ | with_reducible refine r_block ?_ | with_reducible refine r_jump ?_))
    have hL11 := hL10.get u11 fun b hb _ e => by have e' : b = b2 := e; omega
    have ownW11 := ownW10.get u11 fun b hb e => by have := newW9 b hb; have e' : b = b2 := e; omega
    have hR11 := hR.get u11 fun b hb _ e => by have e' : b = b2 := e; omega
    refine postC1 rfl rfl (load_agg (xs := p.cells) AggT.h h11 (by rfl) (by rfl)) ⟨_, rfl, p, rfl, ?_, ?_, u010.trans' u11 fun b hb e => by have e' : b = b2 := e; omega⟩
    · rw [hp]
      exact ⟨hL11.own.rd, hL11.each, by show out.length * 64 ≤ _; omega, ownW11.rd, hq.sw, hR11.own.rd, hR11.each, by show rout.length * 24 ≤ _; omega⟩
    · rw [hp]
      simp only [Qr.says, hsay, hrsay]

set_option maxHeartbeats 2000000 in
set_option maxRecDepth 100000 in
theorem same_query (x y : Qr) (w : World) (hx : x.Rdy w) (hy : y.Rdy w) (hs : y.says = x.says) : Gets Tryd.prog 13 [y.v, x.v] w fun v w' => v = .bool true ∧ Ext w w' := by
  obtain ⟨hit, hmo, haf, hwh, hwi, hby, hre⟩ : y.items.map It.says = x.items.map It.says ∧ y.mode = x.mode ∧ y.after = x.after ∧ y.wh = x.wh ∧ y.within = x.within ∧ y.by_ = x.by_ ∧ y.ret.map Tr.ns = x.ret.map Tr.ns := by
    simpa only [Qr.says, Prod.mk.injEq] using hs
  have hli : y.items.length = x.items.length := by simpa using congrArg List.length hit
  have hlr : y.ret.length = x.ret.length := by simpa using congrArg List.length hre
  have hsi := hx.si; have hsr := hx.sr; have hsw := hx.sw
  refine ⟨GoFn.h, calls_of_swp 94 Tryd.func13 Tryd.ntmps13 rfl (Nat.le_of_ble_eq_true rfl) ?_⟩
  (repeat (first | refine swp_seq ?_ | refine swp_block ?_)); refine swp_region (by kernel_rfl) ?_
  refine w_boxA (by rfl) (by rfl) (by rfl) ?_; intro b0 w0 e0 u0 h0
  refine w_boxA (by rfl) (by rfl) (by rfl) ?_; intro b1 w1 e1 u1 h1
  replace h0 : Blk w1 b0 29 y.cells := h0.at u1
  replace h1 : Blk w1 b1 29 x.cells := h1
  have u := u0.trans u1
  repeat (first | refine x_move (by rfl) ?_ | refine x_as (by rfl) (by rfl) ?_ | refine x_skip (by rfl) ?_ | refine x_fld (by rfl) (by rfl) FldO.h ?_ | refine x_nilck (by rfl) (by rfl) ?_ | refine x_len (by rfl) (by rfl) ElOf.some ?_ | refine x_ext (by rfl) (by rfl) (by rfl) ?_ | refine x_pickT (by rfl) (by rfl) (by rfl) ?_ | refine x_pickF (by rfl) (by rfl) (by rfl) ?_ | refine x_add (by rfl) (by rfl) (by rfl) (by omega) ?_ | refine x_sub (by rfl) (by rfl) (by rfl) (by omega) ?_ | refine x_not (by rfl) (by rfl) ?_)
  refine x_nilw ?_
  (repeat (first | refine swp_seq ?_ | refine swp_block ?_)); refine swp_region (by kernel_rfl) ?_
  repeat (first | refine x_move (by rfl) ?_ | refine x_as (by rfl) (by rfl) ?_ | refine x_skip (by rfl) ?_ | refine x_fld (by rfl) (by rfl) FldO.h ?_ | refine x_nilck (by rfl) (by rfl) ?_ | refine x_len (by rfl) (by rfl) ElOf.some ?_ | refine x_ext (by rfl) (by rfl) (by rfl) ?_ | refine x_pickT (by rfl) (by rfl) (by rfl) ?_ | refine x_pickF (by rfl) (by rfl) (by rfl) ?_ | refine x_add (by rfl) (by rfl) (by rfl) (by omega) ?_ | refine x_sub (by rfl) (by rfl) (by rfl) (by omega) ?_ | refine x_not (by rfl) (by rfl) ?_)
  refine w_load (by rfl) (by rfl) (load_one (v := .slice y.ia y.items.length y.ic) OneT.h h0 (by rfl)) ?_
  repeat (first | refine x_move (by rfl) ?_ | refine x_as (by rfl) (by rfl) ?_ | refine x_skip (by rfl) ?_ | refine x_fld (by rfl) (by rfl) FldO.h ?_ | refine x_nilck (by rfl) (by rfl) ?_ | refine x_len (by rfl) (by rfl) ElOf.some ?_ | refine x_ext (by rfl) (by rfl) (by rfl) ?_ | refine x_pickT (by rfl) (by rfl) (by rfl) ?_ | refine x_pickF (by rfl) (by rfl) (by rfl) ?_ | refine x_add (by rfl) (by rfl) (by rfl) (by omega) ?_ | refine x_sub (by rfl) (by rfl) (by rfl) (by omega) ?_ | refine x_not (by rfl) (by rfl) ?_)
  refine w_load (by rfl) (by rfl) (load_one (v := .slice x.ia x.items.length x.ic) OneT.h h1 (by rfl)) ?_
  repeat (first | refine x_move (by rfl) ?_ | refine x_as (by rfl) (by rfl) ?_ | refine x_skip (by rfl) ?_ | refine x_fld (by rfl) (by rfl) FldO.h ?_ | refine x_nilck (by rfl) (by rfl) ?_ | refine x_len (by rfl) (by rfl) ElOf.some ?_ | refine x_ext (by rfl) (by rfl) (by rfl) ?_ | refine x_pickT (by rfl) (by rfl) (by rfl) ?_ | refine x_pickF (by rfl) (by rfl) (by rfl) ?_ | refine x_add (by rfl) (by rfl) (by rfl) (by omega) ?_ | refine x_sub (by rfl) (by rfl) (by rfl) (by omega) ?_ | refine x_not (by rfl) (by rfl) ?_)
  refine x_neqF (by rfl) (by rfl) (by rfl) (by omega) ?_
  repeat (first | refine x_move (by rfl) ?_ | refine x_as (by rfl) (by rfl) ?_ | refine x_skip (by rfl) ?_ | refine x_fld (by rfl) (by rfl) FldO.h ?_ | refine x_nilck (by rfl) (by rfl) ?_ | refine x_len (by rfl) (by rfl) ElOf.some ?_ | refine x_ext (by rfl) (by rfl) (by rfl) ?_ | refine x_pickT (by rfl) (by rfl) (by rfl) ?_ | refine x_pickF (by rfl) (by rfl) (by rfl) ?_ | refine x_add (by rfl) (by rfl) (by rfl) (by omega) ?_ | refine x_sub (by rfl) (by rfl) (by rfl) (by omega) ?_ | refine x_not (by rfl) (by rfl) ?_)
  refine w_load (by rfl) (by rfl) (load_one (v := .slice y.ra y.ret.length y.rc) OneT.h h0 (by rfl)) ?_
  repeat (first | refine x_move (by rfl) ?_ | refine x_as (by rfl) (by rfl) ?_ | refine x_skip (by rfl) ?_ | refine x_fld (by rfl) (by rfl) FldO.h ?_ | refine x_nilck (by rfl) (by rfl) ?_ | refine x_len (by rfl) (by rfl) ElOf.some ?_ | refine x_ext (by rfl) (by rfl) (by rfl) ?_ | refine x_pickT (by rfl) (by rfl) (by rfl) ?_ | refine x_pickF (by rfl) (by rfl) (by rfl) ?_ | refine x_add (by rfl) (by rfl) (by rfl) (by omega) ?_ | refine x_sub (by rfl) (by rfl) (by rfl) (by omega) ?_ | refine x_not (by rfl) (by rfl) ?_)
  refine w_load (by rfl) (by rfl) (load_one (v := .slice x.ra x.ret.length x.rc) OneT.h h1 (by rfl)) ?_
  repeat (first | refine x_move (by rfl) ?_ | refine x_as (by rfl) (by rfl) ?_ | refine x_skip (by rfl) ?_ | refine x_fld (by rfl) (by rfl) FldO.h ?_ | refine x_nilck (by rfl) (by rfl) ?_ | refine x_len (by rfl) (by rfl) ElOf.some ?_ | refine x_ext (by rfl) (by rfl) (by rfl) ?_ | refine x_pickT (by rfl) (by rfl) (by rfl) ?_ | refine x_pickF (by rfl) (by rfl) (by rfl) ?_ | refine x_add (by rfl) (by rfl) (by rfl) (by omega) ?_ | refine x_sub (by rfl) (by rfl) (by rfl) (by omega) ?_ | refine x_not (by rfl) (by rfl) ?_)
  refine x_neqF (by rfl) (by rfl) (by rfl) (by omega) ?_
  repeat (first | refine x_move (by rfl) ?_ | refine x_as (by rfl) (by rfl) ?_ | refine x_skip (by rfl) ?_ | refine x_fld (by rfl) (by rfl) FldO.h ?_ | refine x_nilck (by rfl) (by rfl) ?_ | refine x_len (by rfl) (by rfl) ElOf.some ?_ | refine x_ext (by rfl) (by rfl) (by rfl) ?_ | refine x_pickT (by rfl) (by rfl) (by rfl) ?_ | refine x_pickF (by rfl) (by rfl) (by rfl) ?_ | refine x_add (by rfl) (by rfl) (by rfl) (by omega) ?_ | refine x_sub (by rfl) (by rfl) (by rfl) (by omega) ?_ | refine x_not (by rfl) (by rfl) ?_)
  refine x_nilw ?_
  (repeat (first | refine swp_seq ?_ | refine swp_block ?_))
  refine swp_false (by rfl) (swp_skip ?_)
  (repeat (first | refine swp_seq ?_ | refine swp_block ?_)); refine swp_region (by kernel_rfl) ?_
  repeat (first | refine x_move (by rfl) ?_ | refine x_as (by rfl) (by rfl) ?_ | refine x_skip (by rfl) ?_ | refine x_fld (by rfl) (by rfl) FldO.h ?_ | refine x_nilck (by rfl) (by rfl) ?_ | refine x_len (by rfl) (by rfl) ElOf.some ?_ | refine x_ext (by rfl) (by rfl) (by rfl) ?_ | refine x_pickT (by rfl) (by rfl) (by rfl) ?_ | refine x_pickF (by rfl) (by rfl) (by rfl) ?_ | refine x_add (by rfl) (by rfl) (by rfl) (by omega) ?_ | refine x_sub (by rfl) (by rfl) (by rfl) (by omega) ?_ | refine x_not (by rfl) (by rfl) ?_)
  refine x_nilw ?_
  refine swp_fit [(2, .pointer (some ⟨b0, 0, none⟩)), (3, .pointer (some ⟨b1, 0, none⟩)), (5, .int .i64 ((0 : Nat) : Int))] ⟨rfl, rfl, rfl, trivial⟩ fun ρ => ?_
  (repeat (first | refine swp_seq ?_ | refine swp_block ?_))
  refine swp_loop (fun (i : Nat) σ w2 => At σ [(2, .pointer (some ⟨b0, 0, none⟩)), (3, .pointer (some ⟨b1, 0, none⟩)), (5, .int .i64 (i : Nat))] ∧ i ≤ x.items.length ∧ Ext w1 w2) (fun i => x.items.length - i) 0 ⟨at_ ⟨rfl, rfl, rfl, trivial⟩, by omega, Upd.refl _ _⟩ ?_
  rintro i σ w2 ⟨⟨ρ, rfl⟩, hi, u2⟩
  have u02 := u.trans u2
  have g0 := h0.at u2
  have g1 := h1.at u2
  (repeat (first | refine swp_seq ?_ | refine swp_block ?_)); refine swp_region (by kernel_rfl) ?_
  repeat (first | refine x_move (by rfl) ?_ | refine x_as (by rfl) (by rfl) ?_ | refine x_skip (by rfl) ?_ | refine x_fld (by rfl) (by rfl) FldO.h ?_ | refine x_nilck (by rfl) (by rfl) ?_ | refine x_len (by rfl) (by rfl) ElOf.some ?_ | refine x_ext (by rfl) (by rfl) (by rfl) ?_ | refine x_pickT (by rfl) (by rfl) (by rfl) ?_ | refine x_pickF (by rfl) (by rfl) (by rfl) ?_ | refine x_add (by rfl) (by rfl) (by rfl) (by omega) ?_ | refine x_sub (by rfl) (by rfl) (by rfl) (by omega) ?_ | refine x_not (by rfl) (by rfl) ?_)
  refine w_load (by rfl) (by rfl) (load_one (v := .slice y.ia y.items.length y.ic) OneT.h g0 (by rfl)) ?_
  repeat (first | refine x_move (by rfl) ?_ | refine x_as (by rfl) (by rfl) ?_ | refine x_skip (by rfl) ?_ | refine x_fld (by rfl) (by rfl) FldO.h ?_ | refine w_load (by rfl) (by rfl) (load_one OneT.h (by assumption) (by rfl)) ?_ | refine x_nilck (by rfl) (by rfl) ?_ | refine x_len (by rfl) (by rfl) ElOf.some ?_ | refine x_iface (by rfl) (by rfl) NIf.h ?_ | refine x_ext (by rfl) (by rfl) (by rfl) ?_ | refine x_pickT (by rfl) (by rfl) (by rfl) ?_ | refine x_pickF (by rfl) (by rfl) (by rfl) ?_ | refine x_add (by rfl) (by rfl) (by rfl) (by omega) ?_ | refine x_sub (by rfl) (by rfl) (by rfl) (by omega) ?_ | refine x_lss (by rfl) (by rfl) (by rfl) ?_ | refine x_geq (by rfl) (by rfl) (by rfl) ?_ | refine x_leq (by rfl) (by rfl) (by rfl) ?_ | refine x_gtr (by rfl) (by rfl) (by rfl) ?_ | refine x_eql (by rfl) (by rfl) (by rfl) ?_ | refine x_neq (by rfl) (by rfl) (by rfl) ?_ | refine x_not (by rfl) (by rfl) ?_)
  refine x_nilw ?_
  (repeat (first | refine swp_seq ?_ | refine swp_block ?_))
  refine swp_if (by rfl) (fun hp => swp_skip ?_) (fun hp => ?_)
  · have hi' : i < x.items.length := by omega
    obtain ⟨a, ha⟩ := nthE hi'
    obtain ⟨b, hb⟩ := nthE (L := y.items) (i := i) (by omega)
    have hab : b.says = a.says := by
      have e1 : (x.items.map It.says)[i]? = some a.says := by rw [List.getElem?_map, ha]; rfl
      have e2 : (y.items.map It.says)[i]? = some b.says := by rw [List.getElem?_map, hb]; rfl
      rw [← hit, e2] at e1
      injection e1
    have aR := (hx.its a (List.mem_of_getElem? ha)).at u02
    have bR := (hy.its b (List.mem_of_getElem? hb)).at u02
    have r1 := hx.it.at u02
    have r0 := hy.it.at u02
    obtain ⟨p1, o1, d1, he1, -, -⟩ := r1.pos (by omega)
    simp only [Value.slice.injEq] at he1
    obtain ⟨ea1, _, rfl⟩ := he1
    obtain ⟨p0, o0, d0, he0, -, -⟩ := r0.pos (by omega)
    simp only [Value.slice.injEq] at he0
    obtain ⟨ea0, _, rfl⟩ := he0
    rw [ea1] at r1
    rw [ea0] at r0
    (repeat (first | with_reducible refine n_then ?_ | with_reducible refine n_block ?_ | with_reducible refine n_jump ?_))
    (repeat (first | refine swp_seq ?_ | refine swp_block ?_)); refine swp_draw (Ext w2) [] Mixed.h (by kernel_rfl) (by kernel_rfl) (ext_drew w2) ?_
    repeat (first | refine x_move (by rfl) ?_ | refine x_as (by rfl) (by rfl) ?_ | refine x_skip (by rfl) ?_ | refine x_fld (by rfl) (by rfl) FldO.h ?_ | refine x_nilck (by rfl) (by rfl) ?_ | refine x_len (by rfl) (by rfl) ElOf.some ?_ | refine x_ext (by rfl) (by rfl) (by rfl) ?_ | refine x_pickT (by rfl) (by rfl) (by rfl) ?_ | refine x_pickF (by rfl) (by rfl) (by rfl) ?_ | refine x_add (by rfl) (by rfl) (by rfl) (by omega) ?_ | refine x_sub (by rfl) (by rfl) (by rfl) (by omega) ?_ | refine x_not (by rfl) (by rfl) ?_)
    refine q_load (by rfl) (by rfl) (by rfl) (fun w' hw' => load_one (v := .slice (some ⟨p0, o0, none⟩) y.items.length y.ic) OneT.h (g0.at hw') (by rw [← ea0]; rfl)) ?_
    repeat (first | refine x_move (by rfl) ?_ | refine x_as (by rfl) (by rfl) ?_ | refine x_skip (by rfl) ?_ | refine x_fld (by rfl) (by rfl) FldO.h ?_ | refine x_nilck (by rfl) (by rfl) ?_ | refine x_len (by rfl) (by rfl) ElOf.some ?_ | refine x_ext (by rfl) (by rfl) (by rfl) ?_ | refine x_pickT (by rfl) (by rfl) (by rfl) ?_ | refine x_pickF (by rfl) (by rfl) (by rfl) ?_ | refine x_add (by rfl) (by rfl) (by rfl) (by omega) ?_ | refine x_sub (by rfl) (by rfl) (by rfl) (by omega) ?_ | refine x_not (by rfl) (by rfl) ?_)
    refine x_idx i (by rfl) (by rfl) (by rfl) ElSz.h rfl (by omega) ?_
    refine q_load (by rfl) (by rfl) (by rfl) (fun w' hw' => rd_load it_len AggT.h (r0.at hw') hb rfl rfl) ?_
    repeat (first | refine x_move (by rfl) ?_ | refine x_as (by rfl) (by rfl) ?_ | refine x_skip (by rfl) ?_ | refine x_fld (by rfl) (by rfl) FldO.h ?_ | refine x_nilck (by rfl) (by rfl) ?_ | refine x_len (by rfl) (by rfl) ElOf.some ?_ | refine x_ext (by rfl) (by rfl) (by rfl) ?_ | refine x_pickT (by rfl) (by rfl) (by rfl) ?_ | refine x_pickF (by rfl) (by rfl) (by rfl) ?_ | refine x_add (by rfl) (by rfl) (by rfl) (by omega) ?_ | refine x_sub (by rfl) (by rfl) (by rfl) (by omega) ?_ | refine x_not (by rfl) (by rfl) ?_)
    refine q_load (by rfl) (by rfl) (by rfl) (fun w' hw' => load_one (v := .slice (some ⟨p1, o1, none⟩) x.items.length x.ic) OneT.h (g1.at hw') (by rw [← ea1]; rfl)) ?_
    repeat (first | refine x_move (by rfl) ?_ | refine x_as (by rfl) (by rfl) ?_ | refine x_skip (by rfl) ?_ | refine x_fld (by rfl) (by rfl) FldO.h ?_ | refine x_nilck (by rfl) (by rfl) ?_ | refine x_len (by rfl) (by rfl) ElOf.some ?_ | refine x_ext (by rfl) (by rfl) (by rfl) ?_ | refine x_pickT (by rfl) (by rfl) (by rfl) ?_ | refine x_pickF (by rfl) (by rfl) (by rfl) ?_ | refine x_add (by rfl) (by rfl) (by rfl) (by omega) ?_ | refine x_sub (by rfl) (by rfl) (by rfl) (by omega) ?_ | refine x_not (by rfl) (by rfl) ?_)
    refine x_idx i (by rfl) (by rfl) (by rfl) ElSz.h rfl hi' ?_
    refine q_load (by rfl) (by rfl) (by rfl) (fun w' hw' => rd_load it_len AggT.h (r1.at hw') ha rfl rfl) ?_
    refine q_call (v := .bool true) (by rfl) (by rfl) (by rfl) (fun w' hw' => (same_item a b w' (aR.at hw') (bR.at hw') hab).mono fun v w'' h => ⟨h.1, hw'.trans h.2⟩) ?_
    repeat (first | refine x_move (by rfl) ?_ | refine x_as (by rfl) (by rfl) ?_ | refine x_skip (by rfl) ?_ | refine x_fld (by rfl) (by rfl) FldO.h ?_ | refine x_nilck (by rfl) (by rfl) ?_ | refine x_len (by rfl) (by rfl) ElOf.some ?_ | refine x_ext (by rfl) (by rfl) (by rfl) ?_ | refine x_pickT (by rfl) (by rfl) (by rfl) ?_ | refine x_pickF (by rfl) (by rfl) (by rfl) ?_ | refine x_add (by rfl) (by rfl) (by rfl) (by omega) ?_ | refine x_sub (by rfl) (by rfl) (by rfl) (by omega) ?_ | refine x_not (by rfl) (by rfl) ?_)
    refine x_nil fun w3 u3 => ?_
    (repeat (first | refine swp_seq ?_ | refine swp_block ?_))
    refine swp_false (by rfl) (swp_skip ?_)
    (repeat (first | with_reducible refine n_then ?_ | with_reducible refine n_block ?_ | with_reducible refine n_jump ?_))
    (repeat (first | refine swp_seq ?_ | refine swp_block ?_)); refine swp_region (by kernel_rfl) ?_
    repeat (first | refine x_move (by rfl) ?_ | refine x_as (by rfl) (by rfl) ?_ | refine x_skip (by rfl) ?_ | refine x_fld (by rfl) (by rfl) FldO.h ?_ | refine w_load (by rfl) (by rfl) (load_one OneT.h (by assumption) (by rfl)) ?_ | refine x_nilck (by rfl) (by rfl) ?_ | refine x_len (by rfl) (by rfl) ElOf.some ?_ | refine x_iface (by rfl) (by rfl) NIf.h ?_ | refine x_ext (by rfl) (by rfl) (by rfl) ?_ | refine x_pickT (by rfl) (by rfl) (by rfl) ?_ | refine x_pickF (by rfl) (by rfl) (by rfl) ?_ | refine x_add (by rfl) (by rfl) (by rfl) (by omega) ?_ | refine x_sub (by rfl) (by rfl) (by rfl) (by omega) ?_ | refine x_lss (by rfl) (by rfl) (by rfl) ?_ | refine x_geq (by rfl) (by rfl) (by rfl) ?_ | refine x_leq (by rfl) (by rfl) (by rfl) ?_ | refine x_gtr (by rfl) (by rfl) (by rfl) ?_ | refine x_eql (by rfl) (by rfl) (by rfl) ?_ | refine x_neq (by rfl) (by rfl) (by rfl) ?_ | refine x_not (by rfl) (by rfl) ?_)
    refine x_nilw ?_
    exact ⟨i + 1, ⟨at_ ⟨rfl, rfl, rfl, trivial⟩, hi', u2.trans u3⟩, by omega⟩
  refine swp_exit ?_; (repeat (first | with_reducible refine e_then ?_ | with_reducible refine e_jump ?_)); refine e_block ?_; (repeat (first | with_reducible refine n_then ?_ | with_reducible refine n_block ?_ | with_reducible refine n_jump ?_))
  (repeat (first | refine swp_seq ?_ | refine swp_block ?_)); refine swp_region (by kernel_rfl) ?_
  repeat (first | refine x_move (by rfl) ?_ | refine x_as (by rfl) (by rfl) ?_ | refine x_skip (by rfl) ?_ | refine x_fld (by rfl) (by rfl) FldO.h ?_ | refine x_nilck (by rfl) (by rfl) ?_ | refine x_len (by rfl) (by rfl) ElOf.some ?_ | refine x_ext (by rfl) (by rfl) (by rfl) ?_ | refine x_pickT (by rfl) (by rfl) (by rfl) ?_ | refine x_pickF (by rfl) (by rfl) (by rfl) ?_ | refine x_add (by rfl) (by rfl) (by rfl) (by omega) ?_ | refine x_sub (by rfl) (by rfl) (by rfl) (by omega) ?_ | refine x_not (by rfl) (by rfl) ?_)
  refine x_nilw ?_
  refine swp_fit [(2, .pointer (some ⟨b0, 0, none⟩)), (3, .pointer (some ⟨b1, 0, none⟩)), (6, .int .i64 ((0 : Nat) : Int))] ⟨rfl, rfl, rfl, trivial⟩ fun ρ => ?_
  (repeat (first | refine swp_seq ?_ | refine swp_block ?_))
  refine swp_loop (fun (j : Nat) σ w3 => At σ [(2, .pointer (some ⟨b0, 0, none⟩)), (3, .pointer (some ⟨b1, 0, none⟩)), (6, .int .i64 (j : Nat))] ∧ j ≤ x.ret.length ∧ Ext w1 w3) (fun j => x.ret.length - j) 0 ⟨at_ ⟨rfl, rfl, rfl, trivial⟩, by omega, u2⟩ ?_
  clear g0 g1 u02 u2 hp hi
  rintro j σ w3 ⟨⟨ρ, rfl⟩, hj, u3⟩
  have u03 := u.trans u3
  have g0 := h0.at u3
  have g1 := h1.at u3
  (repeat (first | refine swp_seq ?_ | refine swp_block ?_)); refine swp_region (by kernel_rfl) ?_
  repeat (first | refine x_move (by rfl) ?_ | refine x_as (by rfl) (by rfl) ?_ | refine x_skip (by rfl) ?_ | refine x_fld (by rfl) (by rfl) FldO.h ?_ | refine x_nilck (by rfl) (by rfl) ?_ | refine x_len (by rfl) (by rfl) ElOf.some ?_ | refine x_ext (by rfl) (by rfl) (by rfl) ?_ | refine x_pickT (by rfl) (by rfl) (by rfl) ?_ | refine x_pickF (by rfl) (by rfl) (by rfl) ?_ | refine x_add (by rfl) (by rfl) (by rfl) (by omega) ?_ | refine x_sub (by rfl) (by rfl) (by rfl) (by omega) ?_ | refine x_not (by rfl) (by rfl) ?_)
  refine w_load (by rfl) (by rfl) (load_one (v := .slice y.ra y.ret.length y.rc) OneT.h g0 (by rfl)) ?_
  repeat (first | refine x_move (by rfl) ?_ | refine x_as (by rfl) (by rfl) ?_ | refine x_skip (by rfl) ?_ | refine x_fld (by rfl) (by rfl) FldO.h ?_ | refine w_load (by rfl) (by rfl) (load_one OneT.h (by assumption) (by rfl)) ?_ | refine x_nilck (by rfl) (by rfl) ?_ | refine x_len (by rfl) (by rfl) ElOf.some ?_ | refine x_iface (by rfl) (by rfl) NIf.h ?_ | refine x_ext (by rfl) (by rfl) (by rfl) ?_ | refine x_pickT (by rfl) (by rfl) (by rfl) ?_ | refine x_pickF (by rfl) (by rfl) (by rfl) ?_ | refine x_add (by rfl) (by rfl) (by rfl) (by omega) ?_ | refine x_sub (by rfl) (by rfl) (by rfl) (by omega) ?_ | refine x_lss (by rfl) (by rfl) (by rfl) ?_ | refine x_geq (by rfl) (by rfl) (by rfl) ?_ | refine x_leq (by rfl) (by rfl) (by rfl) ?_ | refine x_gtr (by rfl) (by rfl) (by rfl) ?_ | refine x_eql (by rfl) (by rfl) (by rfl) ?_ | refine x_neq (by rfl) (by rfl) (by rfl) ?_ | refine x_not (by rfl) (by rfl) ?_)
  refine x_nilw ?_
  (repeat (first | refine swp_seq ?_ | refine swp_block ?_))
  refine swp_if (by rfl) (fun hp => swp_skip ?_) (fun hp => ?_)
  · have hj' : j < x.ret.length := by omega
    obtain ⟨a, ha⟩ := nthE hj'
    obtain ⟨b, hb⟩ := nthE (L := y.ret) (i := j) (by omega)
    have hab : b.ns = a.ns := by
      have e1 : (x.ret.map Tr.ns)[j]? = some a.ns := by rw [List.getElem?_map, ha]; rfl
      have e2 : (y.ret.map Tr.ns)[j]? = some b.ns := by rw [List.getElem?_map, hb]; rfl
      rw [← hre, e2] at e1
      injection e1
    have aR := (hx.rts a (List.mem_of_getElem? ha)).at u03
    have bR := (hy.rts b (List.mem_of_getElem? hb)).at u03
    have hsa := aR.sm
    have r1 := hx.rt.at u03
    have r0 := hy.rt.at u03
    obtain ⟨p1, o1, d1, he1, -, -⟩ := r1.pos (by omega)
    simp only [Value.slice.injEq] at he1
    obtain ⟨ea1, _, rfl⟩ := he1
    obtain ⟨p0, o0, d0, he0, -, -⟩ := r0.pos (by omega)
    simp only [Value.slice.injEq] at he0
    obtain ⟨ea0, _, rfl⟩ := he0
    rw [ea1] at r1
    rw [ea0] at r0
    (repeat (first | with_reducible refine n_then ?_ | with_reducible refine n_block ?_ | with_reducible refine n_jump ?_))
    (repeat (first | refine swp_seq ?_ | refine swp_block ?_)); refine swp_draw (Ext w3) [] Mixed.h (by kernel_rfl) (by kernel_rfl) (ext_drew w3) ?_
    repeat (first | refine x_move (by rfl) ?_ | refine x_as (by rfl) (by rfl) ?_ | refine x_skip (by rfl) ?_ | refine x_fld (by rfl) (by rfl) FldO.h ?_ | refine x_nilck (by rfl) (by rfl) ?_ | refine x_len (by rfl) (by rfl) ElOf.some ?_ | refine x_ext (by rfl) (by rfl) (by rfl) ?_ | refine x_pickT (by rfl) (by rfl) (by rfl) ?_ | refine x_pickF (by rfl) (by rfl) (by rfl) ?_ | refine x_add (by rfl) (by rfl) (by rfl) (by omega) ?_ | refine x_sub (by rfl) (by rfl) (by rfl) (by omega) ?_ | refine x_not (by rfl) (by rfl) ?_)
    refine q_load (by rfl) (by rfl) (by rfl) (fun w' hw' => load_one (v := .slice (some ⟨p0, o0, none⟩) y.ret.length y.rc) OneT.h (g0.at hw') (by rw [← ea0]; rfl)) ?_
    repeat (first | refine x_move (by rfl) ?_ | refine x_as (by rfl) (by rfl) ?_ | refine x_skip (by rfl) ?_ | refine x_fld (by rfl) (by rfl) FldO.h ?_ | refine x_nilck (by rfl) (by rfl) ?_ | refine x_len (by rfl) (by rfl) ElOf.some ?_ | refine x_ext (by rfl) (by rfl) (by rfl) ?_ | refine x_pickT (by rfl) (by rfl) (by rfl) ?_ | refine x_pickF (by rfl) (by rfl) (by rfl) ?_ | refine x_add (by rfl) (by rfl) (by rfl) (by omega) ?_ | refine x_sub (by rfl) (by rfl) (by rfl) (by omega) ?_ | refine x_not (by rfl) (by rfl) ?_)
    refine x_idx j (by rfl) (by rfl) (by rfl) ElSz.h rfl (by omega) ?_
    refine q_load (by rfl) (by rfl) (by rfl) (fun w' hw' => load_one_cell OneT.h (rd_cell (v := .slice b.a b.ns.length b.c) (j := 0) tr_len (r0.at hw') hb rfl rfl rfl)) ?_
    repeat (first | refine x_move (by rfl) ?_ | refine x_as (by rfl) (by rfl) ?_ | refine x_skip (by rfl) ?_ | refine x_fld (by rfl) (by rfl) FldO.h ?_ | refine x_nilck (by rfl) (by rfl) ?_ | refine x_len (by rfl) (by rfl) ElOf.some ?_ | refine x_ext (by rfl) (by rfl) (by rfl) ?_ | refine x_pickT (by rfl) (by rfl) (by rfl) ?_ | refine x_pickF (by rfl) (by rfl) (by rfl) ?_ | refine x_add (by rfl) (by rfl) (by rfl) (by omega) ?_ | refine x_sub (by rfl) (by rfl) (by rfl) (by omega) ?_ | refine x_not (by rfl) (by rfl) ?_)
    refine q_load (by rfl) (by rfl) (by rfl) (fun w' hw' => load_one (v := .slice (some ⟨p1, o1, none⟩) x.ret.length x.rc) OneT.h (g1.at hw') (by rw [← ea1]; rfl)) ?_
    repeat (first | refine x_move (by rfl) ?_ | refine x_as (by rfl) (by rfl) ?_ | refine x_skip (by rfl) ?_ | refine x_fld (by rfl) (by rfl) FldO.h ?_ | refine x_nilck (by rfl) (by rfl) ?_ | refine x_len (by rfl) (by rfl) ElOf.some ?_ | refine x_ext (by rfl) (by rfl) (by rfl) ?_ | refine x_pickT (by rfl) (by rfl) (by rfl) ?_ | refine x_pickF (by rfl) (by rfl) (by rfl) ?_ | refine x_add (by rfl) (by rfl) (by rfl) (by omega) ?_ | refine x_sub (by rfl) (by rfl) (by rfl) (by omega) ?_ | refine x_not (by rfl) (by rfl) ?_)
    refine x_idx j (by rfl) (by rfl) (by rfl) ElSz.h rfl hj' ?_
    refine q_load (by rfl) (by rfl) (by rfl) (fun w' hw' => load_one_cell OneT.h (rd_cell (v := .slice a.a a.ns.length a.c) (j := 0) tr_len (r1.at hw') ha rfl rfl rfl)) ?_
    refine q_call (v := .bool true) (by rfl) (by rfl) (by rfl) (fun w' hw' => (same_tree (xs := a.ns) (by have := (bR.at hw').rd; simp only [hab] at this ⊢; exact this) (aR.at hw').rd (by omega)).mono fun v w'' h => ⟨h.1, hw'.trans h.2⟩) ?_
    repeat (first | refine x_move (by rfl) ?_ | refine x_as (by rfl) (by rfl) ?_ | refine x_skip (by rfl) ?_ | refine x_fld (by rfl) (by rfl) FldO.h ?_ | refine x_nilck (by rfl) (by rfl) ?_ | refine x_len (by rfl) (by rfl) ElOf.some ?_ | refine x_ext (by rfl) (by rfl) (by rfl) ?_ | refine x_pickT (by rfl) (by rfl) (by rfl) ?_ | refine x_pickF (by rfl) (by rfl) (by rfl) ?_ | refine x_add (by rfl) (by rfl) (by rfl) (by omega) ?_ | refine x_sub (by rfl) (by rfl) (by rfl) (by omega) ?_ | refine x_not (by rfl) (by rfl) ?_)
    refine x_nil fun w4 u4 => ?_
    (repeat (first | refine swp_seq ?_ | refine swp_block ?_))
    refine swp_false (by rfl) (swp_skip ?_)
    (repeat (first | with_reducible refine n_then ?_ | with_reducible refine n_block ?_ | with_reducible refine n_jump ?_))
    (repeat (first | refine swp_seq ?_ | refine swp_block ?_)); refine swp_region (by kernel_rfl) ?_
    repeat (first | refine x_move (by rfl) ?_ | refine x_as (by rfl) (by rfl) ?_ | refine x_skip (by rfl) ?_ | refine x_fld (by rfl) (by rfl) FldO.h ?_ | refine w_load (by rfl) (by rfl) (load_one OneT.h (by assumption) (by rfl)) ?_ | refine x_nilck (by rfl) (by rfl) ?_ | refine x_len (by rfl) (by rfl) ElOf.some ?_ | refine x_iface (by rfl) (by rfl) NIf.h ?_ | refine x_ext (by rfl) (by rfl) (by rfl) ?_ | refine x_pickT (by rfl) (by rfl) (by rfl) ?_ | refine x_pickF (by rfl) (by rfl) (by rfl) ?_ | refine x_add (by rfl) (by rfl) (by rfl) (by omega) ?_ | refine x_sub (by rfl) (by rfl) (by rfl) (by omega) ?_ | refine x_lss (by rfl) (by rfl) (by rfl) ?_ | refine x_geq (by rfl) (by rfl) (by rfl) ?_ | refine x_leq (by rfl) (by rfl) (by rfl) ?_ | refine x_gtr (by rfl) (by rfl) (by rfl) ?_ | refine x_eql (by rfl) (by rfl) (by rfl) ?_ | refine x_neq (by rfl) (by rfl) (by rfl) ?_ | refine x_not (by rfl) (by rfl) ?_)
    refine x_nilw ?_
    exact ⟨j + 1, ⟨at_ ⟨rfl, rfl, rfl, trivial⟩, hj', u3.trans u4⟩, by omega⟩
  refine swp_exit ?_; (repeat (first | with_reducible refine e_then ?_ | with_reducible refine e_jump ?_)); refine e_block ?_; (repeat (first | with_reducible refine n_then ?_ | with_reducible refine n_block ?_ | with_reducible refine n_jump ?_))
  refine swp_fit [(2, .pointer (some ⟨b0, 0, none⟩)), (3, .pointer (some ⟨b1, 0, none⟩))] ⟨rfl, rfl, trivial⟩ fun ρ => ?_
  (repeat (first | refine swp_seq ?_ | refine swp_block ?_)); refine swp_region (by kernel_rfl) ?_
  repeat (first | refine x_move (by rfl) ?_ | refine x_as (by rfl) (by rfl) ?_ | refine x_skip (by rfl) ?_ | refine x_fld (by rfl) (by rfl) FldO.h ?_ | refine x_nilck (by rfl) (by rfl) ?_ | refine x_len (by rfl) (by rfl) ElOf.some ?_ | refine x_ext (by rfl) (by rfl) (by rfl) ?_ | refine x_pickT (by rfl) (by rfl) (by rfl) ?_ | refine x_pickF (by rfl) (by rfl) (by rfl) ?_ | refine x_add (by rfl) (by rfl) (by rfl) (by omega) ?_ | refine x_sub (by rfl) (by rfl) (by rfl) (by omega) ?_ | refine x_not (by rfl) (by rfl) ?_)
  refine w_load (by rfl) (by rfl) (load_one (v := .int .i64 y.mode) OneT.h g0 (by rfl)) ?_
  repeat (first | refine x_move (by rfl) ?_ | refine x_as (by rfl) (by rfl) ?_ | refine x_skip (by rfl) ?_ | refine x_fld (by rfl) (by rfl) FldO.h ?_ | refine x_nilck (by rfl) (by rfl) ?_ | refine x_len (by rfl) (by rfl) ElOf.some ?_ | refine x_ext (by rfl) (by rfl) (by rfl) ?_ | refine x_pickT (by rfl) (by rfl) (by rfl) ?_ | refine x_pickF (by rfl) (by rfl) (by rfl) ?_ | refine x_add (by rfl) (by rfl) (by rfl) (by omega) ?_ | refine x_sub (by rfl) (by rfl) (by rfl) (by omega) ?_ | refine x_not (by rfl) (by rfl) ?_)
  refine w_load (by rfl) (by rfl) (load_one (v := .int .i64 x.mode) OneT.h g1 (by rfl)) ?_
  refine x_eqlT (by rfl) (by rfl) (by rfl) hmo ?_
  repeat (first | refine x_move (by rfl) ?_ | refine x_as (by rfl) (by rfl) ?_ | refine x_skip (by rfl) ?_ | refine x_fld (by rfl) (by rfl) FldO.h ?_ | refine x_nilck (by rfl) (by rfl) ?_ | refine x_len (by rfl) (by rfl) ElOf.some ?_ | refine x_ext (by rfl) (by rfl) (by rfl) ?_ | refine x_pickT (by rfl) (by rfl) (by rfl) ?_ | refine x_pickF (by rfl) (by rfl) (by rfl) ?_ | refine x_add (by rfl) (by rfl) (by rfl) (by omega) ?_ | refine x_sub (by rfl) (by rfl) (by rfl) (by omega) ?_ | refine x_not (by rfl) (by rfl) ?_)
  refine w_load (by rfl) (by rfl) (load_one (v := .int .i64 y.after) OneT.h g0 (by rfl)) ?_
  repeat (first | refine x_move (by rfl) ?_ | refine x_as (by rfl) (by rfl) ?_ | refine x_skip (by rfl) ?_ | refine x_fld (by rfl) (by rfl) FldO.h ?_ | refine x_nilck (by rfl) (by rfl) ?_ | refine x_len (by rfl) (by rfl) ElOf.some ?_ | refine x_ext (by rfl) (by rfl) (by rfl) ?_ | refine x_pickT (by rfl) (by rfl) (by rfl) ?_ | refine x_pickF (by rfl) (by rfl) (by rfl) ?_ | refine x_add (by rfl) (by rfl) (by rfl) (by omega) ?_ | refine x_sub (by rfl) (by rfl) (by rfl) (by omega) ?_ | refine x_not (by rfl) (by rfl) ?_)
  refine w_load (by rfl) (by rfl) (load_one (v := .int .i64 x.after) OneT.h g1 (by rfl)) ?_
  refine x_eqlT (by rfl) (by rfl) (by rfl) haf ?_
  repeat (first | refine x_move (by rfl) ?_ | refine x_as (by rfl) (by rfl) ?_ | refine x_skip (by rfl) ?_ | refine x_fld (by rfl) (by rfl) FldO.h ?_ | refine x_nilck (by rfl) (by rfl) ?_ | refine x_len (by rfl) (by rfl) ElOf.some ?_ | refine x_ext (by rfl) (by rfl) (by rfl) ?_ | refine x_pickT (by rfl) (by rfl) (by rfl) ?_ | refine x_pickF (by rfl) (by rfl) (by rfl) ?_ | refine x_add (by rfl) (by rfl) (by rfl) (by omega) ?_ | refine x_sub (by rfl) (by rfl) (by rfl) (by omega) ?_ | refine x_not (by rfl) (by rfl) ?_)
  refine w_load (by rfl) (by rfl) (load_one (v := .int .i64 y.within) OneT.h g0 (by rfl)) ?_
  repeat (first | refine x_move (by rfl) ?_ | refine x_as (by rfl) (by rfl) ?_ | refine x_skip (by rfl) ?_ | refine x_fld (by rfl) (by rfl) FldO.h ?_ | refine x_nilck (by rfl) (by rfl) ?_ | refine x_len (by rfl) (by rfl) ElOf.some ?_ | refine x_ext (by rfl) (by rfl) (by rfl) ?_ | refine x_pickT (by rfl) (by rfl) (by rfl) ?_ | refine x_pickF (by rfl) (by rfl) (by rfl) ?_ | refine x_add (by rfl) (by rfl) (by rfl) (by omega) ?_ | refine x_sub (by rfl) (by rfl) (by rfl) (by omega) ?_ | refine x_not (by rfl) (by rfl) ?_)
  refine w_load (by rfl) (by rfl) (load_one (v := .int .i64 x.within) OneT.h g1 (by rfl)) ?_
  refine x_eqlT (by rfl) (by rfl) (by rfl) hwi ?_
  repeat (first | refine x_move (by rfl) ?_ | refine x_as (by rfl) (by rfl) ?_ | refine x_skip (by rfl) ?_ | refine x_fld (by rfl) (by rfl) FldO.h ?_ | refine x_nilck (by rfl) (by rfl) ?_ | refine x_len (by rfl) (by rfl) ElOf.some ?_ | refine x_ext (by rfl) (by rfl) (by rfl) ?_ | refine x_pickT (by rfl) (by rfl) (by rfl) ?_ | refine x_pickF (by rfl) (by rfl) (by rfl) ?_ | refine x_add (by rfl) (by rfl) (by rfl) (by omega) ?_ | refine x_sub (by rfl) (by rfl) (by rfl) (by omega) ?_ | refine x_not (by rfl) (by rfl) ?_)
  refine w_load (by rfl) (by rfl) (load_one (v := S y.by_) OneT.h g0 (by rfl)) ?_
  repeat (first | refine x_move (by rfl) ?_ | refine x_as (by rfl) (by rfl) ?_ | refine x_skip (by rfl) ?_ | refine x_fld (by rfl) (by rfl) FldO.h ?_ | refine x_nilck (by rfl) (by rfl) ?_ | refine x_len (by rfl) (by rfl) ElOf.some ?_ | refine x_ext (by rfl) (by rfl) (by rfl) ?_ | refine x_pickT (by rfl) (by rfl) (by rfl) ?_ | refine x_pickF (by rfl) (by rfl) (by rfl) ?_ | refine x_add (by rfl) (by rfl) (by rfl) (by omega) ?_ | refine x_sub (by rfl) (by rfl) (by rfl) (by omega) ?_ | refine x_not (by rfl) (by rfl) ?_)
  refine w_load (by rfl) (by rfl) (load_one (v := S x.by_) OneT.h g1 (by rfl)) ?_
  refine x_eqlS (by rfl) (by rfl) (by rw [← hby]; rfl) ?_
  repeat (first | refine x_move (by rfl) ?_ | refine x_as (by rfl) (by rfl) ?_ | refine x_skip (by rfl) ?_ | refine x_fld (by rfl) (by rfl) FldO.h ?_ | refine x_nilck (by rfl) (by rfl) ?_ | refine x_len (by rfl) (by rfl) ElOf.some ?_ | refine x_ext (by rfl) (by rfl) (by rfl) ?_ | refine x_pickT (by rfl) (by rfl) (by rfl) ?_ | refine x_pickF (by rfl) (by rfl) (by rfl) ?_ | refine x_add (by rfl) (by rfl) (by rfl) (by omega) ?_ | refine x_sub (by rfl) (by rfl) (by rfl) (by omega) ?_ | refine x_not (by rfl) (by rfl) ?_)
  refine w_load (by rfl) (by rfl) (load_one (v := .slice y.wa y.wh.length y.wc) OneT.h g0 (by rfl)) ?_
  repeat (first | refine x_move (by rfl) ?_ | refine x_as (by rfl) (by rfl) ?_ | refine x_skip (by rfl) ?_ | refine x_fld (by rfl) (by rfl) FldO.h ?_ | refine x_nilck (by rfl) (by rfl) ?_ | refine x_len (by rfl) (by rfl) ElOf.some ?_ | refine x_ext (by rfl) (by rfl) (by rfl) ?_ | refine x_pickT (by rfl) (by rfl) (by rfl) ?_ | refine x_pickF (by rfl) (by rfl) (by rfl) ?_ | refine x_add (by rfl) (by rfl) (by rfl) (by omega) ?_ | refine x_sub (by rfl) (by rfl) (by rfl) (by omega) ?_ | refine x_not (by rfl) (by rfl) ?_)
  refine w_load (by rfl) (by rfl) (load_one (v := .slice x.wa x.wh.length x.wc) OneT.h g1 (by rfl)) ?_
  refine w_call (by rfl) (by rfl) (by rfl) (same_tree (xs := x.wh) (by have := hy.wh.at u03; simp only [hwh] at this ⊢; exact this) (hx.wh.at u03) (by omega)) ?_
  rintro _ w4 ⟨rfl, u4⟩
  repeat (first | refine x_move (by rfl) ?_ | refine x_as (by rfl) (by rfl) ?_ | refine x_skip (by rfl) ?_ | refine x_fld (by rfl) (by rfl) FldO.h ?_ | refine x_nilck (by rfl) (by rfl) ?_ | refine x_len (by rfl) (by rfl) ElOf.some ?_ | refine x_ext (by rfl) (by rfl) (by rfl) ?_ | refine x_pickT (by rfl) (by rfl) (by rfl) ?_ | refine x_pickF (by rfl) (by rfl) (by rfl) ?_ | refine x_add (by rfl) (by rfl) (by rfl) (by omega) ?_ | refine x_sub (by rfl) (by rfl) (by rfl) (by omega) ?_ | refine x_not (by rfl) (by rfl) ?_)
  refine x_nilw ?_
  refine swp_ret ?_; (repeat (first | with_reducible refine r_then ?_ | with_reducible refine r_block ?_ | with_reducible refine r_jump ?_))
  exact post1 rfl rfl ⟨_, rfl, rfl, u03.trans u4⟩
end Go.Proofs.YtngmlmfkegoghaaDoor
