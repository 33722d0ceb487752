/- GateSorts: a step of a script. Conditions: fewer than 2^61 steps; room. -/
import Derived.Test.YtnhecopgecoloaaGy
import Derived.Test.YtnhecopgecoloaaGq
namespace Go.Proofs.Ytnhecopgecoloaa
open Hp Sx

/-- the law's record and the gate, beside each other -/
structure TL (w0 w : World) (bt bg r bp : Nat) (sp av tv : Value) (A T : List Ev) (m : Int) (c : Bool) (g : GS) (N n : Nat) : Prop where
  t : Tl w bt av tv A T m c
  gt : Gt w bg r bp sp g N
  ok : g.Ok
  si : SI A T m c g
  hN : N ≤ n
  hA : A.length ≤ n
  d : ∀ b, tfoot bt av tv b → ¬ gfoot bg r bp sp b
  ft : ∀ b, tfoot bt av tv b → w0.heap.size ≤ b
  fg : ∀ b, gfoot bg r bp sp b → w0.heap.size ≤ b
  u : Ext w0 w
def TG (w0 w : World) (bt bg r bp : Nat) (cap : Int) (n : Nat) : Prop := ∃ sp av tv A T m c g N, TL w0 w bt bg r bp sp av tv A T m c g N n ∧ g.cap = cap
theorem TL.at {w0 w w' : World} {bt bg r bp N n : Nat} {sp av tv : Value} {A T : List Ev} {m : Int} {c : Bool} {g : GS} (h : TL w0 w bt bg r bp sp av tv A T m c g N n) (u : Ext w w') : TL w0 w' bt bg r bp sp av tv A T m c g N n :=
  ⟨h.t.at u, h.gt.at u, h.ok, h.si, h.hN, h.hA, h.d, h.ft, h.fg, h.u.trans u⟩
/-- the record turns -/
theorem TL.turn {w0 w w' : World} {bt bg r bp N n n' : Nat} {sp av tv av' tv' : Value} {A T A' T' : List Ev} {m m' : Int} {c c' : Bool} {g g' : GS} (h : TL w0 w bt bg r bp sp av tv A T m c g N n) (hg : Gt w bg r bp sp g' N) (ok' : g'.Ok) (si' : SI A' T' m' c' g') (u : Upd (tfoot bt av tv) w w')
    (t' : Tl w' bt av' tv' A' T' m' c') (hf : ∀ b, tfoot bt av' tv' b → tfoot bt av tv b ∨ w.heap.size ≤ b) (hn : N ≤ n') (hA : A'.length ≤ n') : TL w0 w' bt bg r bp sp av' tv' A' T' m' c' g' N n' := by
  have s0 := h.u.size
  refine ⟨t', hg.get u fun b hb hf => h.d b hf hb, ok', si', hn, hA, fun b hb hb' => ?_, fun b hb => ?_, h.fg, h.u.trans' u fun b hb hf => by have := h.ft b hf; omega⟩
  · rcases hf b hb with h1 | h1
    · exact h.d b h1 hb'
    · have := h.gt.lt hb'; omega
  · rcases hf b hb with h1 | h1
    · exact h.ft b h1
    · omega
/-- the gate turns -/
theorem TL.gate {w0 w w' : World} {bt bg r bp N N' n : Nat} {sp sp' av tv : Value} {A T : List Ev} {m : Int} {c : Bool} {g g' : GS} (h : TL w0 w bt bg r bp sp av tv A T m c g N n) (_hg : Gt w' bg r bp sp' g' N') (u : Upd (gfoot bg r bp sp) w w') (hin : ∀ b, gfoot bg r bp sp' b → gfoot bg r bp sp b ∨ w.heap.size ≤ b) :
    Tl w' bt av tv A T m c ∧ (∀ b, tfoot bt av tv b → ¬ gfoot bg r bp sp' b) ∧ (∀ b, gfoot bg r bp sp' b → w0.heap.size ≤ b) ∧ Ext w0 w' ∧ ∀ b, tfoot bt av tv b → b < w.heap.size := by
  have s0 := h.u.size
  refine ⟨h.t.get u fun b hb hf => h.d b hb hf, fun b hb hb' => ?_, fun b hb => ?_, h.u.trans' u fun b hb hf => by have := h.fg b hf; omega, fun b hb => h.t.lt hb⟩
  · rcases hin b hb' with h1 | h1
    · exact h.d b hb h1
    · have := h.t.lt hb; omega
  · rcases hin b hb with h1 | h1
    · exact h.fg b h1
    · omega

set_option maxHeartbeats 4000000 in
set_option maxRecDepth 100000 in
theorem tstep {w0 w : World} {bt bg r bp : Nat} {cap : Int} {n : Nat} (o : Gop) (h : TG w0 w bt bg r bp cap n) (hr : Room (n + 1) 88) (hn : n ≤ 2305843009213693951) : Gets Try.prog 20 [.pointer (some ⟨bt, 0, none⟩), .pointer (some ⟨bg, 0, none⟩), .int .i64 cap, .agg o.cells.toArray] w fun v w' => v = .bool true ∧ TG w0 w' bt bg r bp cap (n + 1) := by
  obtain ⟨sp, av, tv, A, T, m, c, g, N, tl, rfl⟩ := h
  have hl := tl.ok.len'
  have hAn := tl.hA
  have hNn := tl.hN
  refine ⟨GoFn.h, calls_of_swp 150 Try.func20 Try.ntmps20 rfl (Nat.le_of_ble_eq_true rfl) ?_⟩
  (repeat (first | refine swp_seq ?_ | refine swp_block ?_)); refine swp_region (by kernel_rfl) ?_
  refine w_boxA (by rfl) (by rfl) (by rfl) ?_; intro b0 w1 e1 u1 h1
  repeat (first | refine x_move (by rfl) ?_ | refine x_as (by rfl) (by rfl) ?_ | refine x_skip (by rfl) ?_ | refine x_fld (by rfl) (by rfl) FldO.h ?_ | refine x_nilck (by rfl) (by rfl) ?_ | refine x_len (by rfl) (by rfl) ElOf.some ?_ | refine x_ext (by rfl) (by rfl) (by rfl) ?_ | refine x_pickT (by rfl) (by rfl) (by rfl) ?_ | refine x_pickF (by rfl) (by rfl) (by rfl) ?_ | refine x_add (by rfl) (by rfl) (by rfl) (by omega) ?_ | refine x_sub (by rfl) (by rfl) (by rfl) (by omega) ?_ | refine x_not (by rfl) (by rfl) ?_)
  refine x_nilw ?_
  replace h1 : Blk w1 b0 51 o.cells := h1
  have tl1 := tl.at u1
  have s1 := u1.size
  have hb0 : w.heap.size ≤ b0 := by omega
  have hTw : ∀ b, tfoot bt av tv b → b < w.heap.size := fun b hb => tl.t.lt hb
  have hGw : ∀ b, gfoot bg r bp sp b → b < w.heap.size := fun b hb => tl.gt.lt hb
  (repeat (first | refine swp_seq ?_ | refine swp_block ?_)); refine swp_region (by kernel_rfl) ?_
  repeat (first | refine x_move (by rfl) ?_ | refine x_as (by rfl) (by rfl) ?_ | refine x_skip (by rfl) ?_ | refine x_fld (by rfl) (by rfl) FldO.h ?_ | refine x_nilck (by rfl) (by rfl) ?_ | refine x_len (by rfl) (by rfl) ElOf.some ?_ | refine x_ext (by rfl) (by rfl) (by rfl) ?_ | refine x_pickT (by rfl) (by rfl) (by rfl) ?_ | refine x_pickF (by rfl) (by rfl) (by rfl) ?_ | refine x_add (by rfl) (by rfl) (by rfl) (by omega) ?_ | refine x_sub (by rfl) (by rfl) (by rfl) (by omega) ?_ | refine x_not (by rfl) (by rfl) ?_)
  refine w_load (v := .int .i64 o.kd) (by rfl) (by rfl) (load_one OneT.h h1 (by rfl)) ?_
  refine x_nilw ?_
  (repeat (first | refine swp_seq ?_ | refine swp_block ?_)); refine swp_region (by kernel_rfl) ?_
  repeat (first | refine x_move (by rfl) ?_ | refine x_as (by rfl) (by rfl) ?_ | refine x_skip (by rfl) ?_ | refine x_fld (by rfl) (by rfl) FldO.h ?_ | refine x_nilck (by rfl) (by rfl) ?_ | refine x_len (by rfl) (by rfl) ElOf.some ?_ | refine x_ext (by rfl) (by rfl) (by rfl) ?_ | refine x_pickT (by rfl) (by rfl) (by rfl) ?_ | refine x_pickF (by rfl) (by rfl) (by rfl) ?_ | refine x_add (by rfl) (by rfl) (by rfl) (by omega) ?_ | refine x_sub (by rfl) (by rfl) (by rfl) (by omega) ?_ | refine x_not (by rfl) (by rfl) ?_)
  refine x_eql (by rfl) (by rfl) (by rfl) ?_
  repeat (first | refine x_move (by rfl) ?_ | refine x_as (by rfl) (by rfl) ?_ | refine x_skip (by rfl) ?_ | refine x_fld (by rfl) (by rfl) FldO.h ?_ | refine x_nilck (by rfl) (by rfl) ?_ | refine x_len (by rfl) (by rfl) ElOf.some ?_ | refine x_ext (by rfl) (by rfl) (by rfl) ?_ | refine x_pickT (by rfl) (by rfl) (by rfl) ?_ | refine x_pickF (by rfl) (by rfl) (by rfl) ?_ | refine x_add (by rfl) (by rfl) (by rfl) (by omega) ?_ | refine x_sub (by rfl) (by rfl) (by rfl) (by omega) ?_ | refine x_not (by rfl) (by rfl) ?_)
  refine x_nilw ?_
  (repeat (first | refine swp_seq ?_ | refine swp_block ?_))
  refine swp_if (by rfl) (fun k1 => ?_) (fun k1 => ?_)
  · refine swp_fit [(0, .pointer (some ⟨bt, 0, none⟩)), (1, .pointer (some ⟨bg, 0, none⟩)), (2, .int .i64 g.cap), (7, .pointer (some ⟨b0, 0, none⟩))] ⟨rfl, rfl, rfl, rfl, trivial⟩ fun ρ => ?_
    (repeat (first | refine swp_seq ?_ | refine swp_block ?_)); refine swp_region (by kernel_rfl) ?_
    repeat (first | refine x_move (by rfl) ?_ | refine x_as (by rfl) (by rfl) ?_ | refine x_skip (by rfl) ?_ | refine x_fld (by rfl) (by rfl) FldO.h ?_ | refine x_nilck (by rfl) (by rfl) ?_ | refine x_len (by rfl) (by rfl) ElOf.some ?_ | refine x_ext (by rfl) (by rfl) (by rfl) ?_ | refine x_pickT (by rfl) (by rfl) (by rfl) ?_ | refine x_pickF (by rfl) (by rfl) (by rfl) ?_ | refine x_add (by rfl) (by rfl) (by rfl) (by omega) ?_ | refine x_sub (by rfl) (by rfl) (by rfl) (by omega) ?_ | refine x_not (by rfl) (by rfl) ?_)
    refine w_load (by rfl) (by rfl) (load_agg (xs := o.e.cells) AggT.h h1 (by rfl) (by rfl)) ?_
    refine w_call (by rfl) (by rfl) (by rfl) (reason o.e tl1.t tl1.si tl1.ok (by omega)) ?_
    rintro _ w2 ⟨rfl, u2⟩
    repeat (first | refine x_move (by rfl) ?_ | refine x_as (by rfl) (by rfl) ?_ | refine x_skip (by rfl) ?_ | refine x_fld (by rfl) (by rfl) FldO.h ?_ | refine x_nilck (by rfl) (by rfl) ?_ | refine x_len (by rfl) (by rfl) ElOf.some ?_ | refine x_ext (by rfl) (by rfl) (by rfl) ?_ | refine x_pickT (by rfl) (by rfl) (by rfl) ?_ | refine x_pickF (by rfl) (by rfl) (by rfl) ?_ | refine x_add (by rfl) (by rfl) (by rfl) (by omega) ?_ | refine x_sub (by rfl) (by rfl) (by rfl) (by omega) ?_ | refine x_not (by rfl) (by rfl) ?_)
    refine x_nilw ?_
    have tl2 := tl1.at u2
    have h2 := h1.at u2
    have s2 := u2.size
    (repeat (first | refine swp_seq ?_ | refine swp_block ?_)); refine swp_region (by kernel_rfl) ?_
    repeat (first | refine x_move (by rfl) ?_ | refine x_as (by rfl) (by rfl) ?_ | refine x_skip (by rfl) ?_ | refine x_fld (by rfl) (by rfl) FldO.h ?_ | refine x_nilck (by rfl) (by rfl) ?_ | refine x_len (by rfl) (by rfl) ElOf.some ?_ | refine x_ext (by rfl) (by rfl) (by rfl) ?_ | refine x_pickT (by rfl) (by rfl) (by rfl) ?_ | refine x_pickF (by rfl) (by rfl) (by rfl) ?_ | refine x_add (by rfl) (by rfl) (by rfl) (by omega) ?_ | refine x_sub (by rfl) (by rfl) (by rfl) (by omega) ?_ | refine x_not (by rfl) (by rfl) ?_)
    refine w_load (by rfl) (by rfl) (load_agg (xs := o.e.cells) AggT.h h2 (by rfl) (by rfl)) ?_
    refine w_call (by rfl) (by rfl) (by rfl) (g_push o.e tl2.gt tl2.ok (by omega)) ?_
    rintro _ w3 ⟨rfl, sp3, N3, g3, hN3, u3, hin3⟩
    repeat (first | refine x_move (by rfl) ?_ | refine x_as (by rfl) (by rfl) ?_ | refine x_skip (by rfl) ?_ | refine x_fld (by rfl) (by rfl) FldO.h ?_ | refine x_nilck (by rfl) (by rfl) ?_ | refine x_len (by rfl) (by rfl) ElOf.some ?_ | refine x_ext (by rfl) (by rfl) (by rfl) ?_ | refine x_pickT (by rfl) (by rfl) (by rfl) ?_ | refine x_pickF (by rfl) (by rfl) (by rfl) ?_ | refine x_add (by rfl) (by rfl) (by rfl) (by omega) ?_ | refine x_sub (by rfl) (by rfl) (by rfl) (by omega) ?_ | refine x_not (by rfl) (by rfl) ?_)
    refine x_nilw ?_
    have h3 := h2.get u3 fun hf => by have := hGw b0 hf; omega
    have s3 := u3.size
    obtain ⟨t3, d3, f3, u03, hT3⟩ := tl2.gate g3 u3 hin3
    refine swp_fit [(0, .pointer (some ⟨bt, 0, none⟩)), (7, .pointer (some ⟨b0, 0, none⟩)), (9, .int .i64 (g.pcode o.e)), (10, .int .i64 (g.pcode o.e))] ⟨rfl, rfl, rfl, rfl, trivial⟩ fun ρ => ?_
    refine swp_seq ?_
    refine PEv.swp_cutQ (fun σ w' => At σ [(9, .int .i64 (g.pcode o.e)), (10, .int .i64 (g.pcode o.e))] ∧ TG w0 w' bt bg r bp g.cap (n + 1)) ?_ ?_
    · (repeat (first | refine swp_seq ?_ | refine swp_block ?_)); refine swp_region (by kernel_rfl) ?_
      repeat (first | refine x_move (by rfl) ?_ | refine x_as (by rfl) (by rfl) ?_ | refine x_skip (by rfl) ?_ | refine x_fld (by rfl) (by rfl) FldO.h ?_ | refine x_nilck (by rfl) (by rfl) ?_ | refine x_len (by rfl) (by rfl) ElOf.some ?_ | refine x_ext (by rfl) (by rfl) (by rfl) ?_ | refine x_pickT (by rfl) (by rfl) (by rfl) ?_ | refine x_pickF (by rfl) (by rfl) (by rfl) ?_ | refine x_add (by rfl) (by rfl) (by rfl) (by omega) ?_ | refine x_sub (by rfl) (by rfl) (by rfl) (by omega) ?_ | refine x_not (by rfl) (by rfl) ?_)
      by_cases hc : g.pcode o.e = 0
      · refine x_eqlT (by rfl) (by rfl) (by rfl) hc ?_
        refine x_nilw ?_
        (repeat (first | refine swp_seq ?_ | refine swp_block ?_))
        refine swp_true (by rfl) ?_
        obtain ⟨aa, ac, rfl⟩ := t3.oa.slice
        (repeat (first | refine swp_seq ?_ | refine swp_block ?_)); refine swp_draw (Ext w3) [1007] Mixed.h (by kernel_rfl) (by kernel_rfl) (ext_drew w3) ?_
        repeat (first | refine x_move (by rfl) ?_ | refine x_as (by rfl) (by rfl) ?_ | refine x_skip (by rfl) ?_ | refine x_fld (by rfl) (by rfl) FldO.h ?_ | refine x_nilck (by rfl) (by rfl) ?_ | refine x_len (by rfl) (by rfl) ElOf.some ?_ | refine x_ext (by rfl) (by rfl) (by rfl) ?_ | refine x_pickT (by rfl) (by rfl) (by rfl) ?_ | refine x_pickF (by rfl) (by rfl) (by rfl) ?_ | refine x_add (by rfl) (by rfl) (by rfl) (by omega) ?_ | refine x_sub (by rfl) (by rfl) (by rfl) (by omega) ?_ | refine x_not (by rfl) (by rfl) ?_)
        refine q_load (v := .slice aa A.length ac) (by rfl) (by rfl) (by rfl) (fun w' hw' => load_one OneT.h (t3.blk.at hw') (by rfl)) ?_
        repeat (first | refine x_move (by rfl) ?_ | refine x_as (by rfl) (by rfl) ?_ | refine x_skip (by rfl) ?_ | refine x_fld (by rfl) (by rfl) FldO.h ?_ | refine x_nilck (by rfl) (by rfl) ?_ | refine x_len (by rfl) (by rfl) ElOf.some ?_ | refine x_ext (by rfl) (by rfl) (by rfl) ?_ | refine x_pickT (by rfl) (by rfl) (by rfl) ?_ | refine x_pickF (by rfl) (by rfl) (by rfl) ?_ | refine x_add (by rfl) (by rfl) (by rfl) (by omega) ?_ | refine x_sub (by rfl) (by rfl) (by rfl) (by omega) ?_ | refine x_not (by rfl) (by rfl) ?_)
        refine q_load (by rfl) (by rfl) (by rfl) (fun w' hw' => load_agg (xs := o.e.cells) AggT.h (h3.at hw') (by rfl) (by rfl)) ?_
        refine f_bslice (e := 30) (cs := o.e.cells) (by rfl) (by rfl) (by rfl) (by kernel_rfl) (fun _ _ h u => Upd.trans h u) ?_
        intro w4 b6 w5 u4 e6 u5 h5
        refine x_fix (by rfl) (by rfl) (by rfl) fun w6 u56 => ?_
        have h6 := h5.at u56
        have u46 := u5.trans u56
        have u36 : Ext w3 w6 := Upd.trans u4 u46
        refine w_append (more := []) (news := o.e.cells) (by rfl) (by rfl) (by rfl) (by rfl) SlC.h (t3.oa.at u36) (by rw [List.append_nil]; exact h6) (by rfl) (by rfl) (by omega) (hr.le (by omega)) ?_
        intro lv7 w7 own7 u7 hin7
        obtain ⟨ma, mc, rfl⟩ := own7.slice
        repeat (first | refine x_move (by rfl) ?_ | refine x_as (by rfl) (by rfl) ?_ | refine x_skip (by rfl) ?_ | refine x_fld (by rfl) (by rfl) FldO.h ?_ | refine x_nilck (by rfl) (by rfl) ?_ | refine x_len (by rfl) (by rfl) ElOf.some ?_ | refine x_ext (by rfl) (by rfl) (by rfl) ?_ | refine x_pickT (by rfl) (by rfl) (by rfl) ?_ | refine x_pickF (by rfl) (by rfl) (by rfl) ?_ | refine x_add (by rfl) (by rfl) (by rfl) (by omega) ?_ | refine x_sub (by rfl) (by rfl) (by rfl) (by omega) ?_ | refine x_not (by rfl) (by rfl) ?_)
        have s36 := u36.size
        have s7 := u7.size
        have hb7 := (t3.blk.at u36).get u7 fun hb => (t3.d1 bt hb).1 rfl
        refine w_store (xs := [.slice ma (A.length + 1) mc]) (by rfl) (by rfl) (by rfl) (by rfl) SzT.h (by rfl) (by rfl) hb7 (by simp) ?_
        intro w8 u8 h8 _
        refine x_nilw ?_
        have htv : ∀ b, isIn tv b → b < w3.heap.size := fun b hb => t3.ot.lt hb
        have hbt : bt < w3.heap.size := t3.blk.lt
        have hin7' : ∀ b, isIn (.slice ma (A.length + 1) mc) b → isIn (.slice aa A.length ac) b ∨ w3.heap.size ≤ b := fun b hb => (hin7 b hb).imp id fun h => by omega
        have hne : ∀ b, isIn (.slice ma (A.length + 1) mc) b → b ≠ bt ∧ ¬ isIn tv b := fun b hb => by
          rcases hin7' b hb with h | h
          · exact t3.d1 b h
          · exact ⟨by omega, fun h' => by have := htv b h'; omega⟩
        have own8 : Own w8 30 11 (.slice ma (A.length + 1) mc) (A ++ [o.e]).length (fl Ev.cells (A ++ [o.e])) := by
          rw [fl_append, fl_one, List.length_append]
          exact own7.get u8 fun b hb e => (hne b hb).1 e
        have t8 : Tl w8 bt (.slice ma (A.length + 1) mc) tv (A ++ [o.e]) T m c := ⟨h8, own8, ((t3.ot.at u36).get u7 fun b hb hf => (t3.d1 b hf).2 hb).get u8 fun b hb e => t3.d2 b hb e, hne, t3.d2⟩
        have ok3 := GS.push_ok tl2.ok o.e
        have uT : Upd (tfoot bt (.slice aa A.length ac) tv) w3 w8 := ((u36.of _).trans' u7 fun b _ hb => .inr (.inl hb)).trans' u8 fun b _ e => .inl e
        have hfT : ∀ b, tfoot bt (.slice ma (A.length + 1) mc) tv b → tfoot bt (.slice aa A.length ac) tv b ∨ w3.heap.size ≤ b := fun b hb => by
          rcases hb with hb | hb | hb
          · exact .inl (.inl hb)
          · exact (hin7' b hb).imp (fun h => .inr (.inl h)) id
          · exact .inl (.inr (.inr hb))
        have s03 := u03.size
        refine ⟨rfl, at_ ⟨rfl, rfl, trivial⟩, sp3, _, tv, A ++ [o.e], T, m, c, g.push o.e, N3, ⟨t8, g3.get uT fun b hb hf => d3 b hf hb, ok3, tl2.si.push tl2.ok hc, by omega, by rw [List.length_append]; simp; omega, fun b hb hb' => ?_, fun b hb => ?_, f3, u03.trans' uT fun b hb hf => by have := tl2.ft b hf; omega⟩, cap_push _ _⟩
        · rcases hfT b hb with h | h
          · exact d3 b h hb'
          · have := g3.lt hb'; omega
        · rcases hfT b hb with h | h
          · exact tl2.ft b h
          · omega
      · refine x_eqlF (by rfl) (by rfl) (by rfl) hc ?_
        refine x_nilw ?_
        (repeat (first | refine swp_seq ?_ | refine swp_block ?_))
        refine swp_false (by rfl) (swp_skip ?_)
        rw [push_no hc] at g3
        exact ⟨rfl, at_ ⟨rfl, rfl, trivial⟩, sp3, av, tv, A, T, m, c, g, N3, ⟨t3, g3, tl.ok, tl.si, by omega, by omega, d3, tl2.ft, f3, u03⟩, rfl⟩
    rintro σ w4 ⟨⟨ρ, rfl⟩, hT⟩
    refine n_then ?_
    (repeat (first | refine swp_seq ?_ | refine swp_block ?_)); refine swp_region (by kernel_rfl) ?_
    repeat (first | refine x_move (by rfl) ?_ | refine x_as (by rfl) (by rfl) ?_ | refine x_skip (by rfl) ?_ | refine x_fld (by rfl) (by rfl) FldO.h ?_ | refine x_nilck (by rfl) (by rfl) ?_ | refine x_len (by rfl) (by rfl) ElOf.some ?_ | refine x_ext (by rfl) (by rfl) (by rfl) ?_ | refine x_pickT (by rfl) (by rfl) (by rfl) ?_ | refine x_pickF (by rfl) (by rfl) (by rfl) ?_ | refine x_add (by rfl) (by rfl) (by rfl) (by omega) ?_ | refine x_sub (by rfl) (by rfl) (by rfl) (by omega) ?_ | refine x_not (by rfl) (by rfl) ?_)
    refine x_eqlT (by rfl) (by rfl) (by rfl) rfl ?_
    repeat (first | refine x_move (by rfl) ?_ | refine x_as (by rfl) (by rfl) ?_ | refine x_skip (by rfl) ?_ | refine x_fld (by rfl) (by rfl) FldO.h ?_ | refine x_nilck (by rfl) (by rfl) ?_ | refine x_len (by rfl) (by rfl) ElOf.some ?_ | refine x_ext (by rfl) (by rfl) (by rfl) ?_ | refine x_pickT (by rfl) (by rfl) (by rfl) ?_ | refine x_pickF (by rfl) (by rfl) (by rfl) ?_ | refine x_add (by rfl) (by rfl) (by rfl) (by omega) ?_ | refine x_sub (by rfl) (by rfl) (by rfl) (by omega) ?_ | refine x_not (by rfl) (by rfl) ?_)
    refine x_nilw ?_
    refine swp_ret ?_; (repeat (first | with_reducible refine r_then ?_ | with_reducible refine r_block ?_ | with_reducible refine r_jump ?_))
    exact post1 rfl rfl ⟨_, rfl, rfl, hT⟩
  (repeat (first | refine swp_seq ?_ | refine swp_block ?_)); refine swp_region (by kernel_rfl) ?_
  repeat (first | refine x_move (by rfl) ?_ | refine x_as (by rfl) (by rfl) ?_ | refine x_skip (by rfl) ?_ | refine x_fld (by rfl) (by rfl) FldO.h ?_ | refine x_nilck (by rfl) (by rfl) ?_ | refine x_len (by rfl) (by rfl) ElOf.some ?_ | refine x_ext (by rfl) (by rfl) (by rfl) ?_ | refine x_pickT (by rfl) (by rfl) (by rfl) ?_ | refine x_pickF (by rfl) (by rfl) (by rfl) ?_ | refine x_add (by rfl) (by rfl) (by rfl) (by omega) ?_ | refine x_sub (by rfl) (by rfl) (by rfl) (by omega) ?_ | refine x_not (by rfl) (by rfl) ?_)
  refine x_eql (by rfl) (by rfl) (by rfl) ?_
  repeat (first | refine x_move (by rfl) ?_ | refine x_as (by rfl) (by rfl) ?_ | refine x_skip (by rfl) ?_ | refine x_fld (by rfl) (by rfl) FldO.h ?_ | refine x_nilck (by rfl) (by rfl) ?_ | refine x_len (by rfl) (by rfl) ElOf.some ?_ | refine x_ext (by rfl) (by rfl) (by rfl) ?_ | refine x_pickT (by rfl) (by rfl) (by rfl) ?_ | refine x_pickF (by rfl) (by rfl) (by rfl) ?_ | refine x_add (by rfl) (by rfl) (by rfl) (by omega) ?_ | refine x_sub (by rfl) (by rfl) (by rfl) (by omega) ?_ | refine x_not (by rfl) (by rfl) ?_)
  refine x_nilw ?_
  (repeat (first | refine swp_seq ?_ | refine swp_block ?_))
  refine swp_if (by rfl) (fun k2 => ?_) (fun k2 => ?_)
  · refine swp_fit [(0, .pointer (some ⟨bt, 0, none⟩)), (1, .pointer (some ⟨bg, 0, none⟩)), (7, .pointer (some ⟨b0, 0, none⟩))] ⟨rfl, rfl, rfl, trivial⟩ fun ρ => ?_
    (repeat (first | refine swp_seq ?_ | refine swp_block ?_)); refine swp_region (by kernel_rfl) ?_
    repeat (first | refine x_move (by rfl) ?_ | refine x_as (by rfl) (by rfl) ?_ | refine x_skip (by rfl) ?_ | refine x_fld (by rfl) (by rfl) FldO.h ?_ | refine x_nilck (by rfl) (by rfl) ?_ | refine x_len (by rfl) (by rfl) ElOf.some ?_ | refine x_ext (by rfl) (by rfl) (by rfl) ?_ | refine x_pickT (by rfl) (by rfl) (by rfl) ?_ | refine x_pickF (by rfl) (by rfl) (by rfl) ?_ | refine x_add (by rfl) (by rfl) (by rfl) (by omega) ?_ | refine x_sub (by rfl) (by rfl) (by rfl) (by omega) ?_ | refine x_not (by rfl) (by rfl) ?_)
    refine w_load (v := .int .i64 o.mark) (by rfl) (by rfl) (load_one OneT.h h1 (by rfl)) ?_
    refine w_call (by rfl) (by rfl) (by rfl) (g_advance o.mark tl1.gt tl1.ok) ?_
    rintro _ w3 ⟨lv, rfl, ownl, hfl, sp3, g3, u3, hin3⟩
    repeat (first | refine x_move (by rfl) ?_ | refine x_as (by rfl) (by rfl) ?_ | refine x_skip (by rfl) ?_ | refine x_fld (by rfl) (by rfl) FldO.h ?_ | refine x_nilck (by rfl) (by rfl) ?_ | refine x_len (by rfl) (by rfl) ElOf.some ?_ | refine x_ext (by rfl) (by rfl) (by rfl) ?_ | refine x_pickT (by rfl) (by rfl) (by rfl) ?_ | refine x_pickF (by rfl) (by rfl) (by rfl) ?_ | refine x_add (by rfl) (by rfl) (by rfl) (by omega) ?_ | refine x_sub (by rfl) (by rfl) (by rfl) (by omega) ?_ | refine x_not (by rfl) (by rfl) ?_)
    refine x_nilw ?_
    have h3 := h1.get u3 fun hf => by have := hGw b0 hf; omega
    obtain ⟨t3, d3, f3, u03, hT3⟩ := tl1.gate g3 u3 fun b hb => .inl (hin3 b hb)
    have hbt : bt < w1.heap.size := hT3 bt (.inl rfl)
    have s3 := u3.size
    refine swp_fit [(0, .pointer (some ⟨bt, 0, none⟩)), (7, .pointer (some ⟨b0, 0, none⟩)), (11, lv), (12, .int .i64 (g.acode o.mark))] ⟨rfl, rfl, rfl, rfl, trivial⟩ fun ρ => ?_
    (repeat (first | refine swp_seq ?_ | refine swp_block ?_)); refine swp_region (by kernel_rfl) ?_
    repeat (first | refine x_move (by rfl) ?_ | refine x_as (by rfl) (by rfl) ?_ | refine x_skip (by rfl) ?_ | refine x_fld (by rfl) (by rfl) FldO.h ?_ | refine x_nilck (by rfl) (by rfl) ?_ | refine x_len (by rfl) (by rfl) ElOf.some ?_ | refine x_ext (by rfl) (by rfl) (by rfl) ?_ | refine x_pickT (by rfl) (by rfl) (by rfl) ?_ | refine x_pickF (by rfl) (by rfl) (by rfl) ?_ | refine x_add (by rfl) (by rfl) (by rfl) (by omega) ?_ | refine x_sub (by rfl) (by rfl) (by rfl) (by omega) ?_ | refine x_not (by rfl) (by rfl) ?_)
    refine x_nilw ?_
    refine swp_seq ?_
    refine PEv.swp_cutQ (fun σ w' => At σ [(0, .pointer (some ⟨bt, 0, none⟩)), (7, .pointer (some ⟨b0, 0, none⟩)), (11, lv), (12, .int .i64 (g.acode o.mark)), (13, .int .i64 (g.acode o.mark))] ∧ Ext w3 w') ?_ ?_
    · (repeat (first | refine swp_seq ?_ | refine swp_block ?_)); refine swp_region (by kernel_rfl) ?_
      repeat (first | refine x_move (by rfl) ?_ | refine x_as (by rfl) (by rfl) ?_ | refine x_skip (by rfl) ?_ | refine x_fld (by rfl) (by rfl) FldO.h ?_ | refine x_nilck (by rfl) (by rfl) ?_ | refine x_len (by rfl) (by rfl) ElOf.some ?_ | refine x_ext (by rfl) (by rfl) (by rfl) ?_ | refine x_pickT (by rfl) (by rfl) (by rfl) ?_ | refine x_pickF (by rfl) (by rfl) (by rfl) ?_ | refine x_add (by rfl) (by rfl) (by rfl) (by omega) ?_ | refine x_sub (by rfl) (by rfl) (by rfl) (by omega) ?_ | refine x_not (by rfl) (by rfl) ?_)
      refine w_load (by rfl) (by rfl) (load_one OneT.h t3.blk (by rfl)) ?_
      repeat (first | refine x_move (by rfl) ?_ | refine x_as (by rfl) (by rfl) ?_ | refine x_skip (by rfl) ?_ | refine x_fld (by rfl) (by rfl) FldO.h ?_ | refine x_nilck (by rfl) (by rfl) ?_ | refine x_len (by rfl) (by rfl) ElOf.some ?_ | refine x_ext (by rfl) (by rfl) (by rfl) ?_ | refine x_pickT (by rfl) (by rfl) (by rfl) ?_ | refine x_pickF (by rfl) (by rfl) (by rfl) ?_ | refine x_add (by rfl) (by rfl) (by rfl) (by omega) ?_ | refine x_sub (by rfl) (by rfl) (by rfl) (by omega) ?_ | refine x_not (by rfl) (by rfl) ?_)
      refine x_nilw ?_
      (repeat (first | refine swp_seq ?_ | refine swp_block ?_))
      refine swp_ifb (by rfl) (fun c1 => ?_) (fun c1 => ?_)
      · (repeat (first | refine swp_seq ?_ | refine swp_block ?_)); refine swp_region (by kernel_rfl) ?_
        repeat (first | refine x_move (by rfl) ?_ | refine x_as (by rfl) (by rfl) ?_ | refine x_skip (by rfl) ?_ | refine x_fld (by rfl) (by rfl) FldO.h ?_ | refine x_nilck (by rfl) (by rfl) ?_ | refine x_len (by rfl) (by rfl) ElOf.some ?_ | refine x_ext (by rfl) (by rfl) (by rfl) ?_ | refine x_pickT (by rfl) (by rfl) (by rfl) ?_ | refine x_pickF (by rfl) (by rfl) (by rfl) ?_ | refine x_add (by rfl) (by rfl) (by rfl) (by omega) ?_ | refine x_sub (by rfl) (by rfl) (by rfl) (by omega) ?_ | refine x_not (by rfl) (by rfl) ?_)
        refine x_nilw ?_
        (repeat (first | with_reducible refine n_then ?_ | with_reducible refine n_block ?_ | with_reducible refine n_jump ?_))
        rw [show g.acode o.mark = 101 by unfold GS.acode; rw [tl.si.sh, c1, if_pos rfl]]
        exact ⟨rfl, at_ ⟨rfl, rfl, rfl, rfl, rfl, trivial⟩, Upd.refl _ _⟩
      have hsh : g.shut = false := tl.si.sh.trans c1
      have hmk := (tl.si.cl0 c1).1
      refine swp_seq ?_
      refine PEv.swp_cutQ (fun σ w' => At σ [(0, .pointer (some ⟨bt, 0, none⟩)), (7, .pointer (some ⟨b0, 0, none⟩)), (11, lv), (12, .int .i64 (g.acode o.mark)), (13, .int .i64 0), (59, .bool (!rng o.mark))] ∧ w3 = w') ?_ ?_
      · (repeat (first | refine swp_seq ?_ | refine swp_block ?_)); refine swp_region (by kernel_rfl) ?_
        repeat (first | refine x_move (by rfl) ?_ | refine x_as (by rfl) (by rfl) ?_ | refine x_skip (by rfl) ?_ | refine x_fld (by rfl) (by rfl) FldO.h ?_ | refine x_nilck (by rfl) (by rfl) ?_ | refine x_len (by rfl) (by rfl) ElOf.some ?_ | refine x_ext (by rfl) (by rfl) (by rfl) ?_ | refine x_pickT (by rfl) (by rfl) (by rfl) ?_ | refine x_pickF (by rfl) (by rfl) (by rfl) ?_ | refine x_add (by rfl) (by rfl) (by rfl) (by omega) ?_ | refine x_sub (by rfl) (by rfl) (by rfl) (by omega) ?_ | refine x_not (by rfl) (by rfl) ?_)
        refine w_load (v := .int .i64 o.mark) (by rfl) (by rfl) (load_one OneT.h h3 (by rfl)) ?_
        by_cases l1 : o.mark < minT
        · refine x_lssT (by rfl) (by rfl) (by rfl) l1 ?_
          repeat (first | refine x_move (by rfl) ?_ | refine x_as (by rfl) (by rfl) ?_ | refine x_skip (by rfl) ?_ | refine x_fld (by rfl) (by rfl) FldO.h ?_ | refine x_nilck (by rfl) (by rfl) ?_ | refine x_len (by rfl) (by rfl) ElOf.some ?_ | refine x_ext (by rfl) (by rfl) (by rfl) ?_ | refine x_pickT (by rfl) (by rfl) (by rfl) ?_ | refine x_pickF (by rfl) (by rfl) (by rfl) ?_ | refine x_add (by rfl) (by rfl) (by rfl) (by omega) ?_ | refine x_sub (by rfl) (by rfl) (by rfl) (by omega) ?_ | refine x_not (by rfl) (by rfl) ?_)
          refine x_nilw ?_
          rw [show rng o.mark = false by cases hr : rng o.mark with | false => rfl | true => have := rng_iff.1 hr; omega]
          exact ⟨rfl, at_ ⟨rfl, rfl, rfl, rfl, rfl, rfl, trivial⟩, rfl⟩
        · refine x_lssF (by rfl) (by rfl) (by rfl) l1 ?_
          repeat (first | refine x_move (by rfl) ?_ | refine x_as (by rfl) (by rfl) ?_ | refine x_skip (by rfl) ?_ | refine x_fld (by rfl) (by rfl) FldO.h ?_ | refine x_nilck (by rfl) (by rfl) ?_ | refine x_len (by rfl) (by rfl) ElOf.some ?_ | refine x_ext (by rfl) (by rfl) (by rfl) ?_ | refine x_pickT (by rfl) (by rfl) (by rfl) ?_ | refine x_pickF (by rfl) (by rfl) (by rfl) ?_ | refine x_add (by rfl) (by rfl) (by rfl) (by omega) ?_ | refine x_sub (by rfl) (by rfl) (by rfl) (by omega) ?_ | refine x_not (by rfl) (by rfl) ?_)
          refine w_load (v := .int .i64 o.mark) (by rfl) (by rfl) (load_one OneT.h h3 (by rfl)) ?_
          refine x_gtr (by rfl) (by rfl) (by rfl) ?_
          repeat (first | refine x_move (by rfl) ?_ | refine x_as (by rfl) (by rfl) ?_ | refine x_skip (by rfl) ?_ | refine x_fld (by rfl) (by rfl) FldO.h ?_ | refine x_nilck (by rfl) (by rfl) ?_ | refine x_len (by rfl) (by rfl) ElOf.some ?_ | refine x_ext (by rfl) (by rfl) (by rfl) ?_ | refine x_pickT (by rfl) (by rfl) (by rfl) ?_ | refine x_pickF (by rfl) (by rfl) (by rfl) ?_ | refine x_add (by rfl) (by rfl) (by rfl) (by omega) ?_ | refine x_sub (by rfl) (by rfl) (by rfl) (by omega) ?_ | refine x_not (by rfl) (by rfl) ?_)
          refine x_nilw ?_
          rw [show (!rng o.mark) = decide (maxT < o.mark) by
            by_cases l2 : maxT < o.mark
            · rw [decide_eq_true l2]; cases hr : rng o.mark with | false => rfl | true => have := rng_iff.1 hr; omega
            · rw [decide_eq_false l2, rng_iff.2 ⟨by omega, by omega⟩]; rfl]
          exact ⟨rfl, at_ ⟨rfl, rfl, rfl, rfl, rfl, rfl, trivial⟩, rfl⟩
      rintro σ w' ⟨⟨ρ, rfl⟩, rfl⟩
      refine n_then ?_
      refine swp_ifb (by rfl) (fun c2 => ?_) (fun c2 => ?_)
      · (repeat (first | refine swp_seq ?_ | refine swp_block ?_)); refine swp_region (by kernel_rfl) ?_
        repeat (first | refine x_move (by rfl) ?_ | refine x_as (by rfl) (by rfl) ?_ | refine x_skip (by rfl) ?_ | refine x_fld (by rfl) (by rfl) FldO.h ?_ | refine x_nilck (by rfl) (by rfl) ?_ | refine x_len (by rfl) (by rfl) ElOf.some ?_ | refine x_ext (by rfl) (by rfl) (by rfl) ?_ | refine x_pickT (by rfl) (by rfl) (by rfl) ?_ | refine x_pickF (by rfl) (by rfl) (by rfl) ?_ | refine x_add (by rfl) (by rfl) (by rfl) (by omega) ?_ | refine x_sub (by rfl) (by rfl) (by rfl) (by omega) ?_ | refine x_not (by rfl) (by rfl) ?_)
        refine x_nilw ?_
        (repeat (first | with_reducible refine n_then ?_ | with_reducible refine n_block ?_ | with_reducible refine n_jump ?_))
        rw [show g.acode o.mark = 106 by unfold GS.acode; rw [hsh, if_neg (by decide), if_pos (by simpa using c2)]]
        exact ⟨rfl, at_ ⟨rfl, rfl, rfl, rfl, rfl, trivial⟩, Upd.refl _ _⟩
      replace c2 : rng o.mark = true := by simpa using c2
      (repeat (first | refine swp_seq ?_ | refine swp_block ?_)); refine swp_draw (Ext w3) [] Mixed.h (by kernel_rfl) (by kernel_rfl) (ext_drew w3) ?_
      repeat (first | refine x_move (by rfl) ?_ | refine x_as (by rfl) (by rfl) ?_ | refine x_skip (by rfl) ?_ | refine x_fld (by rfl) (by rfl) FldO.h ?_ | refine x_nilck (by rfl) (by rfl) ?_ | refine x_len (by rfl) (by rfl) ElOf.some ?_ | refine x_ext (by rfl) (by rfl) (by rfl) ?_ | refine x_pickT (by rfl) (by rfl) (by rfl) ?_ | refine x_pickF (by rfl) (by rfl) (by rfl) ?_ | refine x_add (by rfl) (by rfl) (by rfl) (by omega) ?_ | refine x_sub (by rfl) (by rfl) (by rfl) (by omega) ?_ | refine x_not (by rfl) (by rfl) ?_)
      refine q_load (v := .int .i64 o.mark) (by rfl) (by rfl) (by rfl) (fun w' hw' => load_one OneT.h (h3.at hw') (by rfl)) ?_
      repeat (first | refine x_move (by rfl) ?_ | refine x_as (by rfl) (by rfl) ?_ | refine x_skip (by rfl) ?_ | refine x_fld (by rfl) (by rfl) FldO.h ?_ | refine x_nilck (by rfl) (by rfl) ?_ | refine x_len (by rfl) (by rfl) ElOf.some ?_ | refine x_ext (by rfl) (by rfl) (by rfl) ?_ | refine x_pickT (by rfl) (by rfl) (by rfl) ?_ | refine x_pickF (by rfl) (by rfl) (by rfl) ?_ | refine x_add (by rfl) (by rfl) (by rfl) (by omega) ?_ | refine x_sub (by rfl) (by rfl) (by rfl) (by omega) ?_ | refine x_not (by rfl) (by rfl) ?_)
      refine q_load (v := .int .i64 m) (by rfl) (by rfl) (by rfl) (fun w' hw' => load_one OneT.h (t3.blk.at hw') (by rfl)) ?_
      refine x_lss (by rfl) (by rfl) (by rfl) ?_
      repeat (first | refine x_move (by rfl) ?_ | refine x_as (by rfl) (by rfl) ?_ | refine x_skip (by rfl) ?_ | refine x_fld (by rfl) (by rfl) FldO.h ?_ | refine x_nilck (by rfl) (by rfl) ?_ | refine x_len (by rfl) (by rfl) ElOf.some ?_ | refine x_ext (by rfl) (by rfl) (by rfl) ?_ | refine x_pickT (by rfl) (by rfl) (by rfl) ?_ | refine x_pickF (by rfl) (by rfl) (by rfl) ?_ | refine x_add (by rfl) (by rfl) (by rfl) (by omega) ?_ | refine x_sub (by rfl) (by rfl) (by rfl) (by omega) ?_ | refine x_not (by rfl) (by rfl) ?_)
      refine x_nil fun w4 u4 => ?_
      (repeat (first | refine swp_seq ?_ | refine swp_block ?_))
      refine swp_if (by rfl) (fun c3 => ?_) (fun c3 => swp_skip ?_)
      · (repeat (first | refine swp_seq ?_ | refine swp_block ?_)); refine swp_region (by kernel_rfl) ?_
        repeat (first | refine x_move (by rfl) ?_ | refine x_as (by rfl) (by rfl) ?_ | refine x_skip (by rfl) ?_ | refine x_fld (by rfl) (by rfl) FldO.h ?_ | refine x_nilck (by rfl) (by rfl) ?_ | refine x_len (by rfl) (by rfl) ElOf.some ?_ | refine x_ext (by rfl) (by rfl) (by rfl) ?_ | refine x_pickT (by rfl) (by rfl) (by rfl) ?_ | refine x_pickF (by rfl) (by rfl) (by rfl) ?_ | refine x_add (by rfl) (by rfl) (by rfl) (by omega) ?_ | refine x_sub (by rfl) (by rfl) (by rfl) (by omega) ?_ | refine x_not (by rfl) (by rfl) ?_)
        refine x_nilw ?_
        (repeat (first | with_reducible refine n_then ?_ | with_reducible refine n_block ?_ | with_reducible refine n_jump ?_))
        rw [show g.acode o.mark = 105 by unfold GS.acode; rw [hsh, if_neg (by decide), if_neg (by simp [c2]), if_pos (by omega)]]
        exact ⟨rfl, at_ ⟨rfl, rfl, rfl, rfl, rfl, trivial⟩, u4⟩
      · (repeat (first | with_reducible refine n_then ?_ | with_reducible refine n_block ?_ | with_reducible refine n_jump ?_))
        rw [show g.acode o.mark = 0 by unfold GS.acode; rw [hsh, if_neg (by decide), if_neg (by simp [c2]), if_neg (by omega)]]
        exact ⟨rfl, at_ ⟨rfl, rfl, rfl, rfl, rfl, trivial⟩, u4⟩
    rintro σ w3' ⟨⟨ρ, rfl⟩, u33⟩
    refine n_then ?_
    replace t3 := t3.at u33
    replace g3 := g3.at u33
    replace h3 := h3.at u33
    replace ownl := ownl.at u33
    replace u03 := u03.trans u33
    have s33 := u33.size
    have hT0 : g.acode o.mark ≠ 0 → (g.told o.mark).length = 0 := fun h => by unfold GS.told; rw [if_neg h]; rfl
    obtain ⟨l0, l1, rfl⟩ := ownl.slice
    (repeat (first | refine swp_seq ?_ | refine swp_block ?_))
    refine PEv.swp_cutQ (fun σ w' => At σ [(0, .pointer (some ⟨bt, 0, none⟩)), (7, .pointer (some ⟨b0, 0, none⟩)), (11, .slice l0 (g.told o.mark).length l1), (12, .int .i64 (g.acode o.mark)), (87, .bool false)] ∧ w3' = w') ?_ ?_
    · (repeat (first | refine swp_seq ?_ | refine swp_block ?_)); refine swp_region (by kernel_rfl) ?_
      repeat (first | refine x_move (by rfl) ?_ | refine x_as (by rfl) (by rfl) ?_ | refine x_skip (by rfl) ?_ | refine x_fld (by rfl) (by rfl) FldO.h ?_ | refine x_nilck (by rfl) (by rfl) ?_ | refine x_len (by rfl) (by rfl) ElOf.some ?_ | refine x_ext (by rfl) (by rfl) (by rfl) ?_ | refine x_pickT (by rfl) (by rfl) (by rfl) ?_ | refine x_pickF (by rfl) (by rfl) (by rfl) ?_ | refine x_add (by rfl) (by rfl) (by rfl) (by omega) ?_ | refine x_sub (by rfl) (by rfl) (by rfl) (by omega) ?_ | refine x_not (by rfl) (by rfl) ?_)
      refine x_neqF (by rfl) (by rfl) (by rfl) (fun h => h rfl) ?_
      repeat (first | refine x_move (by rfl) ?_ | refine x_as (by rfl) (by rfl) ?_ | refine x_skip (by rfl) ?_ | refine x_fld (by rfl) (by rfl) FldO.h ?_ | refine x_nilck (by rfl) (by rfl) ?_ | refine x_len (by rfl) (by rfl) ElOf.some ?_ | refine x_ext (by rfl) (by rfl) (by rfl) ?_ | refine x_pickT (by rfl) (by rfl) (by rfl) ?_ | refine x_pickF (by rfl) (by rfl) (by rfl) ?_ | refine x_add (by rfl) (by rfl) (by rfl) (by omega) ?_ | refine x_sub (by rfl) (by rfl) (by rfl) (by omega) ?_ | refine x_not (by rfl) (by rfl) ?_)
      by_cases hc : g.acode o.mark = 0
      · refine x_neqF (by rfl) (by rfl) (by rfl) (fun h => h hc) ?_
        repeat (first | refine x_move (by rfl) ?_ | refine x_as (by rfl) (by rfl) ?_ | refine x_skip (by rfl) ?_ | refine x_fld (by rfl) (by rfl) FldO.h ?_ | refine x_nilck (by rfl) (by rfl) ?_ | refine x_len (by rfl) (by rfl) ElOf.some ?_ | refine x_ext (by rfl) (by rfl) (by rfl) ?_ | refine x_pickT (by rfl) (by rfl) (by rfl) ?_ | refine x_pickF (by rfl) (by rfl) (by rfl) ?_ | refine x_add (by rfl) (by rfl) (by rfl) (by omega) ?_ | refine x_sub (by rfl) (by rfl) (by rfl) (by omega) ?_ | refine x_not (by rfl) (by rfl) ?_)
        refine x_nilw ?_
        exact ⟨rfl, at_ ⟨rfl, rfl, rfl, rfl, rfl, trivial⟩, rfl⟩
      · refine x_neqT (by rfl) (by rfl) (by rfl) hc ?_
        repeat (first | refine x_move (by rfl) ?_ | refine x_as (by rfl) (by rfl) ?_ | refine x_skip (by rfl) ?_ | refine x_fld (by rfl) (by rfl) FldO.h ?_ | refine x_nilck (by rfl) (by rfl) ?_ | refine x_len (by rfl) (by rfl) ElOf.some ?_ | refine x_ext (by rfl) (by rfl) (by rfl) ?_ | refine x_pickT (by rfl) (by rfl) (by rfl) ?_ | refine x_pickF (by rfl) (by rfl) (by rfl) ?_ | refine x_add (by rfl) (by rfl) (by rfl) (by omega) ?_ | refine x_sub (by rfl) (by rfl) (by rfl) (by omega) ?_ | refine x_not (by rfl) (by rfl) ?_)
        refine x_gtrF (by rfl) (by rfl) (by rfl) (by have := hT0 hc; omega) ?_
        repeat (first | refine x_move (by rfl) ?_ | refine x_as (by rfl) (by rfl) ?_ | refine x_skip (by rfl) ?_ | refine x_fld (by rfl) (by rfl) FldO.h ?_ | refine x_nilck (by rfl) (by rfl) ?_ | refine x_len (by rfl) (by rfl) ElOf.some ?_ | refine x_ext (by rfl) (by rfl) (by rfl) ?_ | refine x_pickT (by rfl) (by rfl) (by rfl) ?_ | refine x_pickF (by rfl) (by rfl) (by rfl) ?_ | refine x_add (by rfl) (by rfl) (by rfl) (by omega) ?_ | refine x_sub (by rfl) (by rfl) (by rfl) (by omega) ?_ | refine x_not (by rfl) (by rfl) ?_)
        refine x_nilw ?_
        exact ⟨rfl, at_ ⟨rfl, rfl, rfl, rfl, rfl, trivial⟩, rfl⟩
    rintro σ w' ⟨⟨ρ, rfl⟩, rfl⟩
    refine n_then ?_
    refine swp_false (by rfl) (swp_skip ?_)
    (repeat (first | with_reducible refine n_then ?_ | with_reducible refine n_block ?_ | with_reducible refine n_jump ?_))
    refine swp_seq ?_
    refine PEv.swp_cutQ (fun σ w' => At σ [(0, .pointer (some ⟨bt, 0, none⟩)), (11, .slice l0 (g.told o.mark).length l1)] ∧ Blk w' bt 48 [av, tv, .int .i64 (if g.acode o.mark = 0 then o.mark else m), .bool c] ∧ Upd (fun b => b = bt) w3' w') ?_ ?_
    · (repeat (first | refine swp_seq ?_ | refine swp_block ?_)); refine swp_region (by kernel_rfl) ?_
      repeat (first | refine x_move (by rfl) ?_ | refine x_as (by rfl) (by rfl) ?_ | refine x_skip (by rfl) ?_ | refine x_fld (by rfl) (by rfl) FldO.h ?_ | refine x_nilck (by rfl) (by rfl) ?_ | refine x_len (by rfl) (by rfl) ElOf.some ?_ | refine x_ext (by rfl) (by rfl) (by rfl) ?_ | refine x_pickT (by rfl) (by rfl) (by rfl) ?_ | refine x_pickF (by rfl) (by rfl) (by rfl) ?_ | refine x_add (by rfl) (by rfl) (by rfl) (by omega) ?_ | refine x_sub (by rfl) (by rfl) (by rfl) (by omega) ?_ | refine x_not (by rfl) (by rfl) ?_)
      by_cases hc : g.acode o.mark = 0
      · refine x_eqlT (by rfl) (by rfl) (by rfl) hc ?_
        refine x_nilw ?_
        (repeat (first | refine swp_seq ?_ | refine swp_block ?_))
        refine swp_true (by rfl) ?_
        (repeat (first | refine swp_seq ?_ | refine swp_block ?_)); refine swp_region (by kernel_rfl) ?_
        repeat (first | refine x_move (by rfl) ?_ | refine x_as (by rfl) (by rfl) ?_ | refine x_skip (by rfl) ?_ | refine x_fld (by rfl) (by rfl) FldO.h ?_ | refine x_nilck (by rfl) (by rfl) ?_ | refine x_len (by rfl) (by rfl) ElOf.some ?_ | refine x_ext (by rfl) (by rfl) (by rfl) ?_ | refine x_pickT (by rfl) (by rfl) (by rfl) ?_ | refine x_pickF (by rfl) (by rfl) (by rfl) ?_ | refine x_add (by rfl) (by rfl) (by rfl) (by omega) ?_ | refine x_sub (by rfl) (by rfl) (by rfl) (by omega) ?_ | refine x_not (by rfl) (by rfl) ?_)
        refine w_load (v := .int .i64 o.mark) (by rfl) (by rfl) (load_one OneT.h h3 (by rfl)) ?_
        repeat (first | refine x_move (by rfl) ?_ | refine x_as (by rfl) (by rfl) ?_ | refine x_skip (by rfl) ?_ | refine x_fld (by rfl) (by rfl) FldO.h ?_ | refine x_nilck (by rfl) (by rfl) ?_ | refine x_len (by rfl) (by rfl) ElOf.some ?_ | refine x_ext (by rfl) (by rfl) (by rfl) ?_ | refine x_pickT (by rfl) (by rfl) (by rfl) ?_ | refine x_pickF (by rfl) (by rfl) (by rfl) ?_ | refine x_add (by rfl) (by rfl) (by rfl) (by omega) ?_ | refine x_sub (by rfl) (by rfl) (by rfl) (by omega) ?_ | refine x_not (by rfl) (by rfl) ?_)
        refine w_store (xs := [.int .i64 o.mark]) (by rfl) (by rfl) (by rfl) (by rfl) SzT.h (by rfl) (by rfl) t3.blk (by simp) ?_
        intro w4 u4 h4 _
        refine x_nilw ?_
        rw [if_pos hc]
        exact ⟨rfl, at_ ⟨rfl, rfl, trivial⟩, h4, u4⟩
      · refine x_eqlF (by rfl) (by rfl) (by rfl) hc ?_
        refine x_nilw ?_
        (repeat (first | refine swp_seq ?_ | refine swp_block ?_))
        refine swp_false (by rfl) (swp_skip ?_)
        rw [if_neg hc]
        exact ⟨rfl, at_ ⟨rfl, rfl, trivial⟩, t3.blk, Upd.refl _ _⟩
    rintro σ w4 ⟨⟨ρ, rfl⟩, hb4, u34⟩
    refine n_then ?_
    have s34 := u34.size
    have hsi' : SI A (T ++ g.told o.mark) (if g.acode o.mark = 0 then o.mark else m) c (g.adv o.mark) := by
      by_cases hc : g.acode o.mark = 0
      · rw [if_pos hc]; exact tl.si.adv hc
      · rw [if_neg hc, adv_no hc, show g.told o.mark = [] by unfold GS.told; rw [if_neg hc], List.append_nil]; exact tl.si
    have hTl : (T ++ g.told o.mark).length ≤ A.length := by have := hsi'.len; omega
    rw [List.length_append] at hTl

    (repeat (first | refine swp_seq ?_ | refine swp_block ?_)); refine swp_region (by kernel_rfl) ?_
    repeat (first | refine x_move (by rfl) ?_ | refine x_as (by rfl) (by rfl) ?_ | refine x_skip (by rfl) ?_ | refine x_fld (by rfl) (by rfl) FldO.h ?_ | refine x_nilck (by rfl) (by rfl) ?_ | refine x_len (by rfl) (by rfl) ElOf.some ?_ | refine x_ext (by rfl) (by rfl) (by rfl) ?_ | refine x_pickT (by rfl) (by rfl) (by rfl) ?_ | refine x_pickF (by rfl) (by rfl) (by rfl) ?_ | refine x_add (by rfl) (by rfl) (by rfl) (by omega) ?_ | refine x_sub (by rfl) (by rfl) (by rfl) (by omega) ?_ | refine x_not (by rfl) (by rfl) ?_)
    refine w_load (by rfl) (by rfl) (load_one OneT.h hb4 (by rfl)) ?_
    repeat (first | refine x_move (by rfl) ?_ | refine x_as (by rfl) (by rfl) ?_ | refine x_skip (by rfl) ?_ | refine x_fld (by rfl) (by rfl) FldO.h ?_ | refine x_nilck (by rfl) (by rfl) ?_ | refine x_len (by rfl) (by rfl) ElOf.some ?_ | refine x_ext (by rfl) (by rfl) (by rfl) ?_ | refine x_pickT (by rfl) (by rfl) (by rfl) ?_ | refine x_pickF (by rfl) (by rfl) (by rfl) ?_ | refine x_add (by rfl) (by rfl) (by rfl) (by omega) ?_ | refine x_sub (by rfl) (by rfl) (by rfl) (by omega) ?_ | refine x_not (by rfl) (by rfl) ?_)
    refine w_appendR (by rfl) (by rfl) (by rfl) (by rfl) SlC.h (t3.ot.get u34 fun b hb e => t3.d2 b hb e) (ownl.rd.get u34 fun b hb e => by have := hfl b hb; omega) (PEv.fl_one' ev_one _) (hr.le (by omega)) ?_
    intro tv5 w5 own5 u5 hin5
    rw [← fl_append, ← List.length_append] at own5
    obtain ⟨ta, tc, rfl⟩ := own5.slice
    repeat (first | refine x_move (by rfl) ?_ | refine x_as (by rfl) (by rfl) ?_ | refine x_skip (by rfl) ?_ | refine x_fld (by rfl) (by rfl) FldO.h ?_ | refine x_nilck (by rfl) (by rfl) ?_ | refine x_len (by rfl) (by rfl) ElOf.some ?_ | refine x_ext (by rfl) (by rfl) (by rfl) ?_ | refine x_pickT (by rfl) (by rfl) (by rfl) ?_ | refine x_pickF (by rfl) (by rfl) (by rfl) ?_ | refine x_add (by rfl) (by rfl) (by rfl) (by omega) ?_ | refine x_sub (by rfl) (by rfl) (by rfl) (by omega) ?_ | refine x_not (by rfl) (by rfl) ?_)
    have s5 := u5.size
    have hb5 := hb4.get u5 fun hb => t3.d2 bt hb rfl
    refine w_store (xs := [.slice ta (T ++ g.told o.mark).length tc]) (by rfl) (by rfl) (by rfl) (by rfl) SzT.h (by rfl) (by rfl) hb5 (by simp) ?_
    intro w6 u6 h6 _
    refine x_nilw ?_
    have hav : ∀ b, isIn av b → b < w3'.heap.size := fun b hb => t3.oa.lt hb
    have hin5' : ∀ b, isIn (.slice ta (T ++ g.told o.mark).length tc) b → isIn tv b ∨ w3'.heap.size ≤ b := fun b hb => (hin5 b hb).imp id fun h => by omega
    have hne : ∀ b, isIn (.slice ta (T ++ g.told o.mark).length tc) b → b ≠ bt := fun b hb => (hin5' b hb).elim (t3.d2 b) fun h => by omega
    have t6 : Tl w6 bt av (.slice ta (T ++ g.told o.mark).length tc) A (T ++ g.told o.mark) (if g.acode o.mark = 0 then o.mark else m) c := ⟨h6, ((t3.oa.get u34 fun b hb e => (t3.d1 b hb).1 e).get u5 fun b hb hf => (t3.d1 b hb).2 hf).get u6 fun b hb e => (t3.d1 b hb).1 e, own5.get u6 fun b hb e => hne b hb e, fun b hb => ⟨(t3.d1 b hb).1, fun h => (hin5' b h).elim (t3.d1 b hb).2 fun h => by have := hav b hb; omega⟩, hne⟩
    have uT : Upd (tfoot bt av tv) w3' w6 := ((u34.mono fun b e => .inl e).trans' u5 fun b _ hb => .inr (.inr hb)).trans' u6 fun b _ e => .inl e
    have hfT : ∀ b, tfoot bt av (.slice ta (T ++ g.told o.mark).length tc) b → tfoot bt av tv b ∨ w3'.heap.size ≤ b := fun b hb => by
      rcases hb with hb | hb | hb
      · exact .inl (.inl hb)
      · exact .inl (.inr (.inl hb))
      · exact (hin5' b hb).imp (fun h => .inr (.inr h)) id
    (repeat (first | with_reducible refine n_then ?_ | with_reducible refine n_block ?_ | with_reducible refine n_jump ?_))
    (repeat (first | refine swp_seq ?_ | refine swp_block ?_)); refine swp_region (by kernel_rfl) ?_
    repeat (first | refine x_move (by rfl) ?_ | refine x_as (by rfl) (by rfl) ?_ | refine x_skip (by rfl) ?_ | refine x_fld (by rfl) (by rfl) FldO.h ?_ | refine x_nilck (by rfl) (by rfl) ?_ | refine x_len (by rfl) (by rfl) ElOf.some ?_ | refine x_ext (by rfl) (by rfl) (by rfl) ?_ | refine x_pickT (by rfl) (by rfl) (by rfl) ?_ | refine x_pickF (by rfl) (by rfl) (by rfl) ?_ | refine x_add (by rfl) (by rfl) (by rfl) (by omega) ?_ | refine x_sub (by rfl) (by rfl) (by rfl) (by omega) ?_ | refine x_not (by rfl) (by rfl) ?_)
    refine x_nilw ?_
    refine swp_ret ?_; (repeat (first | with_reducible refine r_then ?_ | with_reducible refine r_block ?_ | with_reducible refine r_jump ?_))
    have s03 := u03.size
    refine post1 rfl rfl ⟨_, rfl, rfl, sp3, av, _, A, T ++ g.told o.mark, (if g.acode o.mark = 0 then o.mark else m), c, g.adv o.mark, N, ⟨t6, g3.get uT fun b hb hf => d3 b hf hb, GS.adv_ok tl.ok o.mark, hsi', by omega, by omega, fun b hb hb' => ?_, fun b hb => ?_, f3, u03.trans' uT fun b hb hf => by have := tl1.ft b hf; omega⟩, cap_adv _ _⟩
    · rcases hfT b hb with h | h
      · exact d3 b h hb'
      · have := g3.lt hb'; omega
    · rcases hfT b hb with h | h
      · exact tl1.ft b h
      · omega
  (repeat (first | refine swp_seq ?_ | refine swp_block ?_)); refine swp_region (by kernel_rfl) ?_
  repeat (first | refine x_move (by rfl) ?_ | refine x_as (by rfl) (by rfl) ?_ | refine x_skip (by rfl) ?_ | refine x_fld (by rfl) (by rfl) FldO.h ?_ | refine x_nilck (by rfl) (by rfl) ?_ | refine x_len (by rfl) (by rfl) ElOf.some ?_ | refine x_ext (by rfl) (by rfl) (by rfl) ?_ | refine x_pickT (by rfl) (by rfl) (by rfl) ?_ | refine x_pickF (by rfl) (by rfl) (by rfl) ?_ | refine x_add (by rfl) (by rfl) (by rfl) (by omega) ?_ | refine x_sub (by rfl) (by rfl) (by rfl) (by omega) ?_ | refine x_not (by rfl) (by rfl) ?_)
  refine x_eql (by rfl) (by rfl) (by rfl) ?_
  repeat (first | refine x_move (by rfl) ?_ | refine x_as (by rfl) (by rfl) ?_ | refine x_skip (by rfl) ?_ | refine x_fld (by rfl) (by rfl) FldO.h ?_ | refine x_nilck (by rfl) (by rfl) ?_ | refine x_len (by rfl) (by rfl) ElOf.some ?_ | refine x_ext (by rfl) (by rfl) (by rfl) ?_ | refine x_pickT (by rfl) (by rfl) (by rfl) ?_ | refine x_pickF (by rfl) (by rfl) (by rfl) ?_ | refine x_add (by rfl) (by rfl) (by rfl) (by omega) ?_ | refine x_sub (by rfl) (by rfl) (by rfl) (by omega) ?_ | refine x_not (by rfl) (by rfl) ?_)
  refine x_nilw ?_
  (repeat (first | refine swp_seq ?_ | refine swp_block ?_))
  refine swp_if (by rfl) (fun k3 => ?_) (fun k3 => swp_skip ?_)
  · refine swp_fit [(0, .pointer (some ⟨bt, 0, none⟩)), (1, .pointer (some ⟨bg, 0, none⟩))] ⟨rfl, rfl, trivial⟩ fun ρ => ?_
    (repeat (first | refine swp_seq ?_ | refine swp_block ?_)); refine swp_region (by kernel_rfl) ?_
    repeat (first | refine x_move (by rfl) ?_ | refine x_as (by rfl) (by rfl) ?_ | refine x_skip (by rfl) ?_ | refine x_fld (by rfl) (by rfl) FldO.h ?_ | refine x_nilck (by rfl) (by rfl) ?_ | refine x_len (by rfl) (by rfl) ElOf.some ?_ | refine x_ext (by rfl) (by rfl) (by rfl) ?_ | refine x_pickT (by rfl) (by rfl) (by rfl) ?_ | refine x_pickF (by rfl) (by rfl) (by rfl) ?_ | refine x_add (by rfl) (by rfl) (by rfl) (by omega) ?_ | refine x_sub (by rfl) (by rfl) (by rfl) (by omega) ?_ | refine x_not (by rfl) (by rfl) ?_)
    refine w_call (by rfl) (by rfl) (by rfl) (g_flush tl1.gt tl1.ok) ?_
    rintro _ w3 ⟨lv, rfl, ownl, hfl, sp3, g3, u3, hin3⟩
    repeat (first | refine x_move (by rfl) ?_ | refine x_as (by rfl) (by rfl) ?_ | refine x_skip (by rfl) ?_ | refine x_fld (by rfl) (by rfl) FldO.h ?_ | refine x_nilck (by rfl) (by rfl) ?_ | refine x_len (by rfl) (by rfl) ElOf.some ?_ | refine x_ext (by rfl) (by rfl) (by rfl) ?_ | refine x_pickT (by rfl) (by rfl) (by rfl) ?_ | refine x_pickF (by rfl) (by rfl) (by rfl) ?_ | refine x_add (by rfl) (by rfl) (by rfl) (by omega) ?_ | refine x_sub (by rfl) (by rfl) (by rfl) (by omega) ?_ | refine x_not (by rfl) (by rfl) ?_)
    refine x_nilw ?_
    obtain ⟨t3, d3, f3, u03, hT3⟩ := tl1.gate g3 u3 fun b hb => .inl (hin3 b hb)
    have hbt : bt < w1.heap.size := hT3 bt (.inl rfl)
    have s3 := u3.size
    obtain ⟨l0, l1, rfl⟩ := ownl.slice
    refine swp_fit [(0, .pointer (some ⟨bt, 0, none⟩)), (14, .slice l0 g.ftold.length l1), (15, .int .i64 g.fcode)] ⟨rfl, rfl, rfl, trivial⟩ fun ρ => ?_
    (repeat (first | refine swp_seq ?_ | refine swp_block ?_))
    refine PEv.swp_cutQ (fun σ w' => At σ [(0, .pointer (some ⟨bt, 0, none⟩)), (14, .slice l0 g.ftold.length l1), (137, .bool false)] ∧ w3 = w') ?_ ?_
    · (repeat (first | refine swp_seq ?_ | refine swp_block ?_)); refine swp_region (by kernel_rfl) ?_
      repeat (first | refine x_move (by rfl) ?_ | refine x_as (by rfl) (by rfl) ?_ | refine x_skip (by rfl) ?_ | refine x_fld (by rfl) (by rfl) FldO.h ?_ | refine x_nilck (by rfl) (by rfl) ?_ | refine x_len (by rfl) (by rfl) ElOf.some ?_ | refine x_ext (by rfl) (by rfl) (by rfl) ?_ | refine x_pickT (by rfl) (by rfl) (by rfl) ?_ | refine x_pickF (by rfl) (by rfl) (by rfl) ?_ | refine x_add (by rfl) (by rfl) (by rfl) (by omega) ?_ | refine x_sub (by rfl) (by rfl) (by rfl) (by omega) ?_ | refine x_not (by rfl) (by rfl) ?_)
      cases c with
      | true =>
        have hsh : g.shut = true := tl.si.sh
        have hft : g.ftold.length = 0 := by unfold GS.ftold; rw [if_pos hsh]; rfl
        refine x_eqlT (by rfl) (by rfl) (by rfl) (by unfold GS.fcode; rw [if_pos hsh]) ?_
        repeat (first | refine x_move (by rfl) ?_ | refine x_as (by rfl) (by rfl) ?_ | refine x_skip (by rfl) ?_ | refine x_fld (by rfl) (by rfl) FldO.h ?_ | refine x_nilck (by rfl) (by rfl) ?_ | refine x_len (by rfl) (by rfl) ElOf.some ?_ | refine x_ext (by rfl) (by rfl) (by rfl) ?_ | refine x_pickT (by rfl) (by rfl) (by rfl) ?_ | refine x_pickF (by rfl) (by rfl) (by rfl) ?_ | refine x_add (by rfl) (by rfl) (by rfl) (by omega) ?_ | refine x_sub (by rfl) (by rfl) (by rfl) (by omega) ?_ | refine x_not (by rfl) (by rfl) ?_)
        refine w_load (by rfl) (by rfl) (load_one OneT.h t3.blk (by rfl)) ?_
        refine x_neqB Try.underlying4 (by rfl) (by rfl) (by rfl) ?_
        repeat (first | refine x_move (by rfl) ?_ | refine x_as (by rfl) (by rfl) ?_ | refine x_skip (by rfl) ?_ | refine x_fld (by rfl) (by rfl) FldO.h ?_ | refine x_nilck (by rfl) (by rfl) ?_ | refine x_len (by rfl) (by rfl) ElOf.some ?_ | refine x_ext (by rfl) (by rfl) (by rfl) ?_ | refine x_pickT (by rfl) (by rfl) (by rfl) ?_ | refine x_pickF (by rfl) (by rfl) (by rfl) ?_ | refine x_add (by rfl) (by rfl) (by rfl) (by omega) ?_ | refine x_sub (by rfl) (by rfl) (by rfl) (by omega) ?_ | refine x_not (by rfl) (by rfl) ?_)
        refine x_eqlF (by rfl) (by rfl) (by rfl) (by unfold GS.fcode; rw [if_pos hsh]; decide) ?_
        repeat (first | refine x_move (by rfl) ?_ | refine x_as (by rfl) (by rfl) ?_ | refine x_skip (by rfl) ?_ | refine x_fld (by rfl) (by rfl) FldO.h ?_ | refine x_nilck (by rfl) (by rfl) ?_ | refine x_len (by rfl) (by rfl) ElOf.some ?_ | refine x_ext (by rfl) (by rfl) (by rfl) ?_ | refine x_pickT (by rfl) (by rfl) (by rfl) ?_ | refine x_pickF (by rfl) (by rfl) (by rfl) ?_ | refine x_add (by rfl) (by rfl) (by rfl) (by omega) ?_ | refine x_sub (by rfl) (by rfl) (by rfl) (by omega) ?_ | refine x_not (by rfl) (by rfl) ?_)
        refine w_load (by rfl) (by rfl) (load_one OneT.h t3.blk (by rfl)) ?_
        refine x_eqlB Try.underlying4 (by rfl) (by rfl) (by rfl) ?_
        repeat (first | refine x_move (by rfl) ?_ | refine x_as (by rfl) (by rfl) ?_ | refine x_skip (by rfl) ?_ | refine x_fld (by rfl) (by rfl) FldO.h ?_ | refine x_nilck (by rfl) (by rfl) ?_ | refine x_len (by rfl) (by rfl) ElOf.some ?_ | refine x_ext (by rfl) (by rfl) (by rfl) ?_ | refine x_pickT (by rfl) (by rfl) (by rfl) ?_ | refine x_pickF (by rfl) (by rfl) (by rfl) ?_ | refine x_add (by rfl) (by rfl) (by rfl) (by omega) ?_ | refine x_sub (by rfl) (by rfl) (by rfl) (by omega) ?_ | refine x_not (by rfl) (by rfl) ?_)
        refine w_load (by rfl) (by rfl) (load_one OneT.h t3.blk (by rfl)) ?_
        repeat (first | refine x_move (by rfl) ?_ | refine x_as (by rfl) (by rfl) ?_ | refine x_skip (by rfl) ?_ | refine x_fld (by rfl) (by rfl) FldO.h ?_ | refine x_nilck (by rfl) (by rfl) ?_ | refine x_len (by rfl) (by rfl) ElOf.some ?_ | refine x_ext (by rfl) (by rfl) (by rfl) ?_ | refine x_pickT (by rfl) (by rfl) (by rfl) ?_ | refine x_pickF (by rfl) (by rfl) (by rfl) ?_ | refine x_add (by rfl) (by rfl) (by rfl) (by omega) ?_ | refine x_sub (by rfl) (by rfl) (by rfl) (by omega) ?_ | refine x_not (by rfl) (by rfl) ?_)
        refine x_gtrF (by rfl) (by rfl) (by rfl) (by omega) ?_
        repeat (first | refine x_move (by rfl) ?_ | refine x_as (by rfl) (by rfl) ?_ | refine x_skip (by rfl) ?_ | refine x_fld (by rfl) (by rfl) FldO.h ?_ | refine x_nilck (by rfl) (by rfl) ?_ | refine x_len (by rfl) (by rfl) ElOf.some ?_ | refine x_ext (by rfl) (by rfl) (by rfl) ?_ | refine x_pickT (by rfl) (by rfl) (by rfl) ?_ | refine x_pickF (by rfl) (by rfl) (by rfl) ?_ | refine x_add (by rfl) (by rfl) (by rfl) (by omega) ?_ | refine x_sub (by rfl) (by rfl) (by rfl) (by omega) ?_ | refine x_not (by rfl) (by rfl) ?_)
        refine x_nilw ?_
        exact ⟨rfl, at_ ⟨rfl, rfl, rfl, trivial⟩, rfl⟩
      | false =>
        have hsh : g.shut = false := tl.si.sh
        refine x_eqlF (by rfl) (by rfl) (by rfl) (by unfold GS.fcode; rw [hsh, if_neg (by decide)]; decide) ?_
        repeat (first | refine x_move (by rfl) ?_ | refine x_as (by rfl) (by rfl) ?_ | refine x_skip (by rfl) ?_ | refine x_fld (by rfl) (by rfl) FldO.h ?_ | refine x_nilck (by rfl) (by rfl) ?_ | refine x_len (by rfl) (by rfl) ElOf.some ?_ | refine x_ext (by rfl) (by rfl) (by rfl) ?_ | refine x_pickT (by rfl) (by rfl) (by rfl) ?_ | refine x_pickF (by rfl) (by rfl) (by rfl) ?_ | refine x_add (by rfl) (by rfl) (by rfl) (by omega) ?_ | refine x_sub (by rfl) (by rfl) (by rfl) (by omega) ?_ | refine x_not (by rfl) (by rfl) ?_)
        refine w_load (by rfl) (by rfl) (load_one OneT.h t3.blk (by rfl)) ?_
        refine x_neqB Try.underlying4 (by rfl) (by rfl) (by rfl) ?_
        repeat (first | refine x_move (by rfl) ?_ | refine x_as (by rfl) (by rfl) ?_ | refine x_skip (by rfl) ?_ | refine x_fld (by rfl) (by rfl) FldO.h ?_ | refine x_nilck (by rfl) (by rfl) ?_ | refine x_len (by rfl) (by rfl) ElOf.some ?_ | refine x_ext (by rfl) (by rfl) (by rfl) ?_ | refine x_pickT (by rfl) (by rfl) (by rfl) ?_ | refine x_pickF (by rfl) (by rfl) (by rfl) ?_ | refine x_add (by rfl) (by rfl) (by rfl) (by omega) ?_ | refine x_sub (by rfl) (by rfl) (by rfl) (by omega) ?_ | refine x_not (by rfl) (by rfl) ?_)
        refine x_eqlT (by rfl) (by rfl) (by rfl) (by unfold GS.fcode; rw [hsh, if_neg (by decide)]) ?_
        repeat (first | refine x_move (by rfl) ?_ | refine x_as (by rfl) (by rfl) ?_ | refine x_skip (by rfl) ?_ | refine x_fld (by rfl) (by rfl) FldO.h ?_ | refine x_nilck (by rfl) (by rfl) ?_ | refine x_len (by rfl) (by rfl) ElOf.some ?_ | refine x_ext (by rfl) (by rfl) (by rfl) ?_ | refine x_pickT (by rfl) (by rfl) (by rfl) ?_ | refine x_pickF (by rfl) (by rfl) (by rfl) ?_ | refine x_add (by rfl) (by rfl) (by rfl) (by omega) ?_ | refine x_sub (by rfl) (by rfl) (by rfl) (by omega) ?_ | refine x_not (by rfl) (by rfl) ?_)
        refine w_load (by rfl) (by rfl) (load_one OneT.h t3.blk (by rfl)) ?_
        refine x_eqlB Try.underlying4 (by rfl) (by rfl) (by rfl) ?_
        repeat (first | refine x_move (by rfl) ?_ | refine x_as (by rfl) (by rfl) ?_ | refine x_skip (by rfl) ?_ | refine x_fld (by rfl) (by rfl) FldO.h ?_ | refine x_nilck (by rfl) (by rfl) ?_ | refine x_len (by rfl) (by rfl) ElOf.some ?_ | refine x_ext (by rfl) (by rfl) (by rfl) ?_ | refine x_pickT (by rfl) (by rfl) (by rfl) ?_ | refine x_pickF (by rfl) (by rfl) (by rfl) ?_ | refine x_add (by rfl) (by rfl) (by rfl) (by omega) ?_ | refine x_sub (by rfl) (by rfl) (by rfl) (by omega) ?_ | refine x_not (by rfl) (by rfl) ?_)
        refine w_load (by rfl) (by rfl) (load_one OneT.h t3.blk (by rfl)) ?_
        repeat (first | refine x_move (by rfl) ?_ | refine x_as (by rfl) (by rfl) ?_ | refine x_skip (by rfl) ?_ | refine x_fld (by rfl) (by rfl) FldO.h ?_ | refine x_nilck (by rfl) (by rfl) ?_ | refine x_len (by rfl) (by rfl) ElOf.some ?_ | refine x_ext (by rfl) (by rfl) (by rfl) ?_ | refine x_pickT (by rfl) (by rfl) (by rfl) ?_ | refine x_pickF (by rfl) (by rfl) (by rfl) ?_ | refine x_add (by rfl) (by rfl) (by rfl) (by omega) ?_ | refine x_sub (by rfl) (by rfl) (by rfl) (by omega) ?_ | refine x_not (by rfl) (by rfl) ?_)
        refine x_nilw ?_
        exact ⟨rfl, at_ ⟨rfl, rfl, rfl, trivial⟩, rfl⟩
    rintro σ w' ⟨⟨ρ, rfl⟩, rfl⟩
    refine n_then ?_
    refine swp_false (by rfl) (swp_skip ?_)
    (repeat (first | with_reducible refine n_then ?_ | with_reducible refine n_block ?_ | with_reducible refine n_jump ?_))
    (repeat (first | refine swp_seq ?_ | refine swp_block ?_)); refine swp_region (by kernel_rfl) ?_
    repeat (first | refine x_move (by rfl) ?_ | refine x_as (by rfl) (by rfl) ?_ | refine x_skip (by rfl) ?_ | refine x_fld (by rfl) (by rfl) FldO.h ?_ | refine x_nilck (by rfl) (by rfl) ?_ | refine x_len (by rfl) (by rfl) ElOf.some ?_ | refine x_ext (by rfl) (by rfl) (by rfl) ?_ | refine x_pickT (by rfl) (by rfl) (by rfl) ?_ | refine x_pickF (by rfl) (by rfl) (by rfl) ?_ | refine x_add (by rfl) (by rfl) (by rfl) (by omega) ?_ | refine x_sub (by rfl) (by rfl) (by rfl) (by omega) ?_ | refine x_not (by rfl) (by rfl) ?_)
    refine w_store (xs := [.bool true]) (by rfl) (by rfl) (by rfl) (by rfl) SzT.h (by rfl) (by rfl) t3.blk (by simp) ?_
    intro w4 u34 hb4 _
    refine x_nilw ?_
    have s34 := u34.size
    have hsi' : SI A (T ++ g.ftold) m true g.flush := tl.si.flush
    have hTl : (T ++ g.ftold).length ≤ A.length := by have := hsi'.len; omega
    rw [List.length_append] at hTl

    (repeat (first | refine swp_seq ?_ | refine swp_block ?_)); refine swp_region (by kernel_rfl) ?_
    repeat (first | refine x_move (by rfl) ?_ | refine x_as (by rfl) (by rfl) ?_ | refine x_skip (by rfl) ?_ | refine x_fld (by rfl) (by rfl) FldO.h ?_ | refine x_nilck (by rfl) (by rfl) ?_ | refine x_len (by rfl) (by rfl) ElOf.some ?_ | refine x_ext (by rfl) (by rfl) (by rfl) ?_ | refine x_pickT (by rfl) (by rfl) (by rfl) ?_ | refine x_pickF (by rfl) (by rfl) (by rfl) ?_ | refine x_add (by rfl) (by rfl) (by rfl) (by omega) ?_ | refine x_sub (by rfl) (by rfl) (by rfl) (by omega) ?_ | refine x_not (by rfl) (by rfl) ?_)
    refine w_load (by rfl) (by rfl) (load_one OneT.h hb4 (by rfl)) ?_
    repeat (first | refine x_move (by rfl) ?_ | refine x_as (by rfl) (by rfl) ?_ | refine x_skip (by rfl) ?_ | refine x_fld (by rfl) (by rfl) FldO.h ?_ | refine x_nilck (by rfl) (by rfl) ?_ | refine x_len (by rfl) (by rfl) ElOf.some ?_ | refine x_ext (by rfl) (by rfl) (by rfl) ?_ | refine x_pickT (by rfl) (by rfl) (by rfl) ?_ | refine x_pickF (by rfl) (by rfl) (by rfl) ?_ | refine x_add (by rfl) (by rfl) (by rfl) (by omega) ?_ | refine x_sub (by rfl) (by rfl) (by rfl) (by omega) ?_ | refine x_not (by rfl) (by rfl) ?_)
    refine w_appendR (by rfl) (by rfl) (by rfl) (by rfl) SlC.h (t3.ot.get u34 fun b hb e => t3.d2 b hb e) (ownl.rd.get u34 fun b hb e => by have := hfl b hb; omega) (PEv.fl_one' ev_one _) (hr.le (by omega)) ?_
    intro tv5 w5 own5 u5 hin5
    rw [← fl_append, ← List.length_append] at own5
    obtain ⟨ta, tc, rfl⟩ := own5.slice
    repeat (first | refine x_move (by rfl) ?_ | refine x_as (by rfl) (by rfl) ?_ | refine x_skip (by rfl) ?_ | refine x_fld (by rfl) (by rfl) FldO.h ?_ | refine x_nilck (by rfl) (by rfl) ?_ | refine x_len (by rfl) (by rfl) ElOf.some ?_ | refine x_ext (by rfl) (by rfl) (by rfl) ?_ | refine x_pickT (by rfl) (by rfl) (by rfl) ?_ | refine x_pickF (by rfl) (by rfl) (by rfl) ?_ | refine x_add (by rfl) (by rfl) (by rfl) (by omega) ?_ | refine x_sub (by rfl) (by rfl) (by rfl) (by omega) ?_ | refine x_not (by rfl) (by rfl) ?_)
    have s5 := u5.size
    have hb5 := hb4.get u5 fun hb => t3.d2 bt hb rfl
    refine w_store (xs := [.slice ta (T ++ g.ftold).length tc]) (by rfl) (by rfl) (by rfl) (by rfl) SzT.h (by rfl) (by rfl) hb5 (by simp [put1]) ?_
    intro w6 u6 h6 _
    refine x_nilw ?_
    have hav : ∀ b, isIn av b → b < w3.heap.size := fun b hb => t3.oa.lt hb
    have hin5' : ∀ b, isIn (.slice ta (T ++ g.ftold).length tc) b → isIn tv b ∨ w3.heap.size ≤ b := fun b hb => (hin5 b hb).imp id fun h => by omega
    have hne : ∀ b, isIn (.slice ta (T ++ g.ftold).length tc) b → b ≠ bt := fun b hb => (hin5' b hb).elim (t3.d2 b) fun h => by omega
    have t6 : Tl w6 bt av (.slice ta (T ++ g.ftold).length tc) A (T ++ g.ftold) m true := ⟨h6, ((t3.oa.get u34 fun b hb e => (t3.d1 b hb).1 e).get u5 fun b hb hf => (t3.d1 b hb).2 hf).get u6 fun b hb e => (t3.d1 b hb).1 e, own5.get u6 fun b hb e => hne b hb e, fun b hb => ⟨(t3.d1 b hb).1, fun h => (hin5' b h).elim (t3.d1 b hb).2 fun h => by have := hav b hb; omega⟩, hne⟩
    have uT : Upd (tfoot bt av tv) w3 w6 := ((u34.mono fun b e => .inl e).trans' u5 fun b _ hb => .inr (.inr hb)).trans' u6 fun b _ e => .inl e
    have hfT : ∀ b, tfoot bt av (.slice ta (T ++ g.ftold).length tc) b → tfoot bt av tv b ∨ w3.heap.size ≤ b := fun b hb => by
      rcases hb with hb | hb | hb
      · exact .inl (.inl hb)
      · exact .inl (.inr (.inl hb))
      · exact (hin5' b hb).imp (fun h => .inr (.inr h)) id
    (repeat (first | with_reducible refine n_then ?_ | with_reducible refine n_block ?_ | with_reducible refine n_jump ?_))
    (repeat (first | refine swp_seq ?_ | refine swp_block ?_)); refine swp_region (by kernel_rfl) ?_
    repeat (first | refine x_move (by rfl) ?_ | refine x_as (by rfl) (by rfl) ?_ | refine x_skip (by rfl) ?_ | refine x_fld (by rfl) (by rfl) FldO.h ?_ | refine x_nilck (by rfl) (by rfl) ?_ | refine x_len (by rfl) (by rfl) ElOf.some ?_ | refine x_ext (by rfl) (by rfl) (by rfl) ?_ | refine x_pickT (by rfl) (by rfl) (by rfl) ?_ | refine x_pickF (by rfl) (by rfl) (by rfl) ?_ | refine x_add (by rfl) (by rfl) (by rfl) (by omega) ?_ | refine x_sub (by rfl) (by rfl) (by rfl) (by omega) ?_ | refine x_not (by rfl) (by rfl) ?_)
    refine x_nilw ?_
    refine swp_ret ?_; (repeat (first | with_reducible refine r_then ?_ | with_reducible refine r_block ?_ | with_reducible refine r_jump ?_))
    have s03 := u03.size
    refine post1 rfl rfl ⟨_, rfl, rfl, sp3, av, _, A, T ++ g.ftold, m, true, g.flush, N, ⟨t6, g3.get uT fun b hb hf => d3 b hf hb, GS.flush_ok tl.ok, hsi', by omega, by omega, fun b hb hb' => ?_, fun b hb => ?_, f3, u03.trans' uT fun b hb hf => by have := tl1.ft b hf; omega⟩, cap_flush _⟩
    · rcases hfT b hb with h | h
      · exact d3 b h hb'
      · have := g3.lt hb'; omega
    · rcases hfT b hb with h | h
      · exact tl1.ft b h
      · omega
  (repeat (first | with_reducible refine n_then ?_ | with_reducible refine n_block ?_ | with_reducible refine n_jump ?_))
  (repeat (first | refine swp_seq ?_ | refine swp_block ?_)); refine swp_region (by kernel_rfl) ?_
  repeat (first | refine x_move (by rfl) ?_ | refine x_as (by rfl) (by rfl) ?_ | refine x_skip (by rfl) ?_ | refine x_fld (by rfl) (by rfl) FldO.h ?_ | refine x_nilck (by rfl) (by rfl) ?_ | refine x_len (by rfl) (by rfl) ElOf.some ?_ | refine x_ext (by rfl) (by rfl) (by rfl) ?_ | refine x_pickT (by rfl) (by rfl) (by rfl) ?_ | refine x_pickF (by rfl) (by rfl) (by rfl) ?_ | refine x_add (by rfl) (by rfl) (by rfl) (by omega) ?_ | refine x_sub (by rfl) (by rfl) (by rfl) (by omega) ?_ | refine x_not (by rfl) (by rfl) ?_)
  refine x_nilw ?_
  refine swp_ret ?_; (repeat (first | with_reducible refine r_then ?_ | with_reducible refine r_block ?_ | with_reducible refine r_jump ?_))
  exact post1 rfl rfl ⟨_, rfl, rfl, sp, av, tv, A, T, m, c, g, N, ⟨tl1.t, tl1.gt, tl1.ok, tl1.si, by omega, by omega, tl1.d, tl1.ft, tl1.fg, tl1.u⟩, rfl⟩
end Go.Proofs.Ytnhecopgecoloaa
