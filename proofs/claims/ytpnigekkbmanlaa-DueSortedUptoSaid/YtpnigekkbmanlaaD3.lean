/- DueMerges' walk: it answers true. Conditions: what is read; so few matches that there is room. -/
import Derived.Test.YtpnigekkbmanlaaRm
import Derived.Test.YtpnigekkbmanlaaMv
namespace Go.Proofs.Ytpnigekkbmanlaa
open Sx Hp

def Ml.In (r : Ml) (b : Nat) : Prop := (0 < r.ms.length ∧ isIn (.slice r.a r.ms.length r.c) b) ∨ ∃ m ∈ r.ms, m.In b
theorem Ml.Rdy.get {F : Nat → Prop} {w w' : World} {r : Ml} (h : r.Rdy w) (u : Upd F w w') (hn : ∀ b, r.In b → ¬F b) : r.Rdy w' :=
  ⟨h.rd.get0 u fun b h0 hb => hn b (.inl ⟨h0, hb⟩), fun m hm => (h.each m hm).get u fun b hb => hn b (.inr ⟨m, hm, hb⟩), h.sm⟩
theorem Ml.Rdy.lt {w : World} {r : Ml} (h : r.Rdy w) {b : Nat} (hb : r.In b) : b < w.heap.size := by
  rcases hb with ⟨h0, hb⟩ | ⟨m, hm, hb⟩
  · exact h.rd.lt0 h0 hb
  · exact (h.each m hm).lt hb
/-- Lists of copies, themselves in a list that grows. -/
structure Was (w0 w : World) (sv : Value) (wr : List Ml) : Prop where
  own : Own w 23 1 sv wr.length (fl Ml.cells wr)
  each : ∀ r ∈ wr, r.Rdy w
  new : ∀ b, isIn sv b → w0.heap.size ≤ b
  newE : ∀ r ∈ wr, ∀ b, r.In b → w0.heap.size ≤ b
  ap : ∀ r ∈ wr, ∀ b, r.In b → ¬isIn sv b
theorem Was.nil (w0 w : World) : Was w0 w (.slice none 0 0) [] := ⟨Own.nil _ _ _, by simp, fun b h => h.elim, by simp, by simp⟩
theorem Was.get {F : Nat → Prop} {w0 w w' : World} {sv : Value} {wr : List Ml} (h : Was w0 w sv wr) (u : Upd F w w') (hn : ∀ b, w0.heap.size ≤ b → b < w.heap.size → ¬F b) : Was w0 w' sv wr :=
  ⟨h.own.get u fun b hb => hn b (h.new b hb) (h.own.lt hb), fun r hr => (h.each r hr).get u fun b hb => hn b (h.newE r hr b hb) ((h.each r hr).lt hb), h.new, h.newE, h.ap⟩
theorem Was.push {w0 w w1 w2 : World} {sv sv' : Value} {wr : List Ml} {r : Ml} (h : Was w0 w sv wr) (h0 : w0.heap.size ≤ w.heap.size) (hr : r.Rdy w1) (hn : ∀ b, r.In b → w.heap.size ≤ b) (x : Ext w w1) (ho : Own w2 23 1 sv' (wr.length + 1) (fl Ml.cells wr ++ r.cells)) (u : Upd (isIn sv) w1 w2) (hin : ∀ b, isIn sv' b → isIn sv b ∨ w1.heap.size ≤ b) : Was w0 w2 sv' (wr ++ [r]) := by
  have s1 := x.size
  have rn : ∀ b, r.In b → ¬isIn sv b := fun b hb hv => by have := h.own.lt hv; have := hn b hb; omega
  have e1 : ∀ z ∈ wr, z.Rdy w1 := fun z hz => (h.each z hz).at x
  refine ⟨?_, fun z hz => ?_, fun b hb => ?_, fun z hz b hb => ?_, fun z hz b hb hv => ?_⟩
  · rw [List.length_append, List.length_singleton, fl_append, fl_one]; exact ho
  · rcases List.mem_append.1 hz with hz | hz
    · exact (e1 z hz).get u (h.ap z hz)
    · rw [List.mem_singleton.1 hz]
      exact hr.get u rn
  · rcases hin b hb with h' | h'
    · exact h.new b h'
    · omega
  · rcases List.mem_append.1 hz with hz | hz
    · exact h.newE z hz b hb
    · rw [List.mem_singleton.1 hz] at hb
      have := hn b hb; omega
  · rcases hin b hv with h' | h'
    · rcases List.mem_append.1 hz with hz | hz
      · exact h.ap z hz b hb h'
      · rw [List.mem_singleton.1 hz] at hb
        exact rn b hb h'
    · rcases List.mem_append.1 hz with hz | hz
      · have := (e1 z hz).lt hb; omega
      · rw [List.mem_singleton.1 hz] at hb
        have := hr.lt hb; omega
def says2 (rows : List Ml) : List (List (Int × List Nm × List Int × List Vl)) := rows.map fun r => r.ms.map Mt.says
theorem says2_all (rows : List Ml) : (allMs rows).map Mt.says = (says2 rows).flatten := by
  simp [allMs, says2, List.flatMap, List.map_flatten]
  rfl
theorem merged_of {rows wr : List Ml} (h : says2 wr = says2 rows) : merged wr = merged rows := by rw [merged, merged, says2_all, says2_all, h]
theorem len_of {rows wr : List Ml} (h : says2 wr = says2 rows) : (allMs wr).length = (allMs rows).length := by
  have := congrArg List.length ((says2_all wr).trans ((congrArg List.flatten h).trans (says2_all rows).symm))
  simpa using this

set_option maxHeartbeats 4000000 in
set_option maxRecDepth 100000 in
theorem walk3 {w : World} {a0 : Option Addr} {c0 : Nat} {rows : List Ml} (hrd : Rd w 1 (.slice a0 rows.length c0) rows.length (fl Ml.cells rows)) (hR : ∀ r ∈ rows, r.Rdy w) (hl : rows.length ≤ 1048576) (hlt : (allMs rows).length ≤ 1048576) :
    Gets Try.prog 3 [.slice a0 rows.length c0] w fun v w' => v = .bool true ∧ Ext w w' := by
  have hr88 : Room (allMs rows).length 88 := room_of (by omega) (by omega)
  have hr80 : Room (allMs rows).length 80 := room_of (by omega) (by omega)
  have hr24 : Room rows.length 24 := room_of (by omega) (by omega)
  refine ⟨GoFn.h, calls_of_swp 65 Try.func3 Try.ntmps3 rfl (Nat.le_of_ble_eq_true rfl) ?_⟩
  (repeat (first | refine swp_seq ?_ | refine swp_block ?_)); refine swp_region (by kernel_rfl) ?_
  repeat (first | refine x_move (by rfl) ?_ | refine x_as (by rfl) (by rfl) ?_ | refine x_skip (by rfl) ?_ | refine x_fld (by rfl) (by rfl) FldO.h ?_ | refine x_nilck (by rfl) (by rfl) ?_ | refine x_len (by rfl) (by rfl) ElOf.some ?_ | refine x_ext (by rfl) (by rfl) (by rfl) ?_ | refine x_pickT (by rfl) (by rfl) (by rfl) ?_ | refine x_pickF (by rfl) (by rfl) (by rfl) ?_ | refine x_add (by rfl) (by rfl) (by rfl) (by omega) ?_ | refine x_sub (by rfl) (by rfl) (by rfl) (by omega) ?_ | refine x_not (by rfl) (by rfl) ?_)
  refine x_nilw ?_
  (repeat (first | refine swp_seq ?_ | refine swp_block ?_)); refine swp_region (by kernel_rfl) ?_
  repeat (first | refine x_move (by rfl) ?_ | refine x_as (by rfl) (by rfl) ?_ | refine x_skip (by rfl) ?_ | refine x_fld (by rfl) (by rfl) FldO.h ?_ | refine x_nilck (by rfl) (by rfl) ?_ | refine x_len (by rfl) (by rfl) ElOf.some ?_ | refine x_ext (by rfl) (by rfl) (by rfl) ?_ | refine x_pickT (by rfl) (by rfl) (by rfl) ?_ | refine x_pickF (by rfl) (by rfl) (by rfl) ?_ | refine x_add (by rfl) (by rfl) (by rfl) (by omega) ?_ | refine x_sub (by rfl) (by rfl) (by rfl) (by omega) ?_ | refine x_not (by rfl) (by rfl) ?_)
  refine x_nilw ?_
  (repeat (first | refine swp_seq ?_ | refine swp_block ?_)); refine swp_region (by kernel_rfl) ?_
  repeat (first | refine x_move (by rfl) ?_ | refine x_as (by rfl) (by rfl) ?_ | refine x_skip (by rfl) ?_ | refine x_fld (by rfl) (by rfl) FldO.h ?_ | refine x_nilck (by rfl) (by rfl) ?_ | refine x_len (by rfl) (by rfl) ElOf.some ?_ | refine x_ext (by rfl) (by rfl) (by rfl) ?_ | refine x_pickT (by rfl) (by rfl) (by rfl) ?_ | refine x_pickF (by rfl) (by rfl) (by rfl) ?_ | refine x_add (by rfl) (by rfl) (by rfl) (by omega) ?_ | refine x_sub (by rfl) (by rfl) (by rfl) (by omega) ?_ | refine x_not (by rfl) (by rfl) ?_)
  refine x_nilw ?_
  refine swp_fit [(0, .slice a0 rows.length c0), (3, .slice none 0 0), (4, .int .i64 ((0 : Nat) : Int))] ⟨rfl, rfl, rfl, trivial⟩ fun ρ => ?_
  (repeat (first | refine swp_seq ?_ | refine swp_block ?_))
  refine swp_loop (fun (i : Nat) σ w3 => ∃ sw wr, At σ [(0, .slice a0 rows.length c0), (3, sw), (4, .int .i64 (i : Nat))] ∧ i ≤ rows.length ∧ Was w w3 sw wr ∧ says2 wr = says2 (rows.take i) ∧ wr.length = i ∧ Ext w w3) (fun i => rows.length - i) 0 ⟨.slice none 0 0, [], at_ ⟨rfl, rfl, rfl, trivial⟩, by omega, Was.nil _ _, rfl, rfl, Upd.refl _ _⟩ ?_
  rintro i σ w3 ⟨sw, wr, ⟨ρ, rfl⟩, hi, hW, hsay, hlw, u3⟩
  have g3 := hrd.at u3
  (repeat (first | refine swp_seq ?_ | refine swp_block ?_)); refine swp_region (by kernel_rfl) ?_
  repeat (first | refine x_move (by rfl) ?_ | refine x_as (by rfl) (by rfl) ?_ | refine x_skip (by rfl) ?_ | refine x_fld (by rfl) (by rfl) FldO.h ?_ | refine w_load (by rfl) (by rfl) (load_one OneT.h (by assumption) (by rfl)) ?_ | refine x_nilck (by rfl) (by rfl) ?_ | refine x_len (by rfl) (by rfl) ElOf.some ?_ | refine x_iface (by rfl) (by rfl) NIf.h ?_ | refine x_ext (by rfl) (by rfl) (by rfl) ?_ | refine x_pickT (by rfl) (by rfl) (by rfl) ?_ | refine x_pickF (by rfl) (by rfl) (by rfl) ?_ | refine x_add (by rfl) (by rfl) (by rfl) (by omega) ?_ | refine x_sub (by rfl) (by rfl) (by rfl) (by omega) ?_ | refine x_lss (by rfl) (by rfl) (by rfl) ?_ | refine x_geq (by rfl) (by rfl) (by rfl) ?_ | refine x_leq (by rfl) (by rfl) (by rfl) ?_ | refine x_gtr (by rfl) (by rfl) (by rfl) ?_ | refine x_eql (by rfl) (by rfl) (by rfl) ?_ | refine x_neq (by rfl) (by rfl) (by rfl) ?_ | refine x_not (by rfl) (by rfl) ?_)
  refine x_nilw ?_
  (repeat (first | refine swp_seq ?_ | refine swp_block ?_))
  refine swp_if (by rfl) (fun h0 => swp_skip ?_) (fun h0 => ?_)
  · have hi' : i < rows.length := by omega
    obtain ⟨r, hr0⟩ := nthE hi'
    obtain ⟨b1, o1, d1, he1, -, -⟩ := hrd.pos (by omega)
    simp only [Value.slice.injEq] at he1
    obtain ⟨rfl, _, rfl⟩ := he1
    have rR := hR r (List.mem_of_getElem? hr0)
    have hfl := flat_len hr0
    (repeat (first | with_reducible refine n_then ?_ | with_reducible refine n_block ?_ | with_reducible refine n_jump ?_))
    (repeat (first | refine swp_seq ?_ | refine swp_block ?_)); refine swp_region (by kernel_rfl) ?_
    refine w_call (by rfl) (by rfl) (by rfl) (ref_merge (a0 := none) (c0 := 0) (rows := []) (Rd.nil _ _ _ _) (by simp) (by simp) (room_of (by simp [allMs]) (by omega))) ?_
    rintro sl w4 ⟨out0, hO4, hs4, u4⟩
    have : out0 = [] := by simpa [merged, allMs] using hs4
    subst this
    repeat (first | refine x_move (by rfl) ?_ | refine x_as (by rfl) (by rfl) ?_ | refine x_skip (by rfl) ?_ | refine x_fld (by rfl) (by rfl) FldO.h ?_ | refine x_nilck (by rfl) (by rfl) ?_ | refine x_len (by rfl) (by rfl) ElOf.some ?_ | refine x_ext (by rfl) (by rfl) (by rfl) ?_ | refine x_pickT (by rfl) (by rfl) (by rfl) ?_ | refine x_pickF (by rfl) (by rfl) (by rfl) ?_ | refine x_add (by rfl) (by rfl) (by rfl) (by omega) ?_ | refine x_sub (by rfl) (by rfl) (by rfl) (by omega) ?_ | refine x_not (by rfl) (by rfl) ?_)
    refine x_nilw ?_
    (repeat (first | refine swp_seq ?_ | refine swp_block ?_)); refine swp_region (by kernel_rfl) ?_
    repeat (first | refine x_move (by rfl) ?_ | refine x_as (by rfl) (by rfl) ?_ | refine x_skip (by rfl) ?_ | refine x_fld (by rfl) (by rfl) FldO.h ?_ | refine x_nilck (by rfl) (by rfl) ?_ | refine x_len (by rfl) (by rfl) ElOf.some ?_ | refine x_ext (by rfl) (by rfl) (by rfl) ?_ | refine x_pickT (by rfl) (by rfl) (by rfl) ?_ | refine x_pickF (by rfl) (by rfl) (by rfl) ?_ | refine x_add (by rfl) (by rfl) (by rfl) (by omega) ?_ | refine x_sub (by rfl) (by rfl) (by rfl) (by omega) ?_ | refine x_not (by rfl) (by rfl) ?_)
    refine x_nilw ?_
    have u34 := u3.trans u4
    refine swp_fit [(0, .slice (some ⟨b1, o1, none⟩) rows.length c0), (3, sw), (4, .int .i64 (i : Nat)), (5, sl), (6, .int .i64 ((0 : Nat) : Int))] ⟨rfl, rfl, rfl, rfl, rfl, trivial⟩ fun ρ => ?_
    refine PEv.swp_cutQ (fun σ w5 => ∃ sl out, At σ [(0, .slice (some ⟨b1, o1, none⟩) rows.length c0), (3, sw), (4, .int .i64 (i : Nat)), (5, sl)] ∧ Outs w3 w5 sl out ∧ out.map Mt.says = r.ms.map Mt.says ∧ Ext w3 w5) ?_ ?_
    · (repeat (first | refine swp_seq ?_ | refine swp_block ?_))
      refine swp_loop (fun (j : Nat) σ w5 => ∃ sl out, At σ [(0, .slice (some ⟨b1, o1, none⟩) rows.length c0), (3, sw), (4, .int .i64 (i : Nat)), (5, sl), (6, .int .i64 (j : Nat))] ∧ j ≤ r.ms.length ∧ Outs w3 w5 sl out ∧ out.map Mt.says = (r.ms.take j).map Mt.says ∧ Ext w3 w5) (fun j => r.ms.length - j) 0 ⟨sl, [], at_ ⟨rfl, rfl, rfl, rfl, rfl, trivial⟩, by omega, hO4, by simp, u4⟩ ?_
      rintro j σ w5 ⟨sl5, out, ⟨ρ, rfl⟩, hj, hO, hso, u5⟩
      have u35 := u3.trans u5
      have g5 := hrd.at u35
      (repeat (first | refine swp_seq ?_ | refine swp_block ?_)); refine swp_region (by kernel_rfl) ?_
      repeat (first | refine x_move (by rfl) ?_ | refine x_as (by rfl) (by rfl) ?_ | refine x_skip (by rfl) ?_ | refine x_fld (by rfl) (by rfl) FldO.h ?_ | refine x_nilck (by rfl) (by rfl) ?_ | refine x_len (by rfl) (by rfl) ElOf.some ?_ | refine x_ext (by rfl) (by rfl) (by rfl) ?_ | refine x_pickT (by rfl) (by rfl) (by rfl) ?_ | refine x_pickF (by rfl) (by rfl) (by rfl) ?_ | refine x_add (by rfl) (by rfl) (by rfl) (by omega) ?_ | refine x_sub (by rfl) (by rfl) (by rfl) (by omega) ?_ | refine x_not (by rfl) (by rfl) ?_)
      refine x_idx i (by rfl) (by rfl) (by rfl) ElSz.h rfl hi' ?_
      refine w_load (by rfl) (by rfl) (load_one_cell OneT.h (rd_cell (v := .slice r.a r.ms.length r.c) (j := 0) ml_len g5 hr0 rfl rfl rfl)) ?_
      repeat (first | refine x_move (by rfl) ?_ | refine x_as (by rfl) (by rfl) ?_ | refine x_skip (by rfl) ?_ | refine x_fld (by rfl) (by rfl) FldO.h ?_ | refine w_load (by rfl) (by rfl) (load_one OneT.h (by assumption) (by rfl)) ?_ | refine x_nilck (by rfl) (by rfl) ?_ | refine x_len (by rfl) (by rfl) ElOf.some ?_ | refine x_iface (by rfl) (by rfl) NIf.h ?_ | refine x_ext (by rfl) (by rfl) (by rfl) ?_ | refine x_pickT (by rfl) (by rfl) (by rfl) ?_ | refine x_pickF (by rfl) (by rfl) (by rfl) ?_ | refine x_add (by rfl) (by rfl) (by rfl) (by omega) ?_ | refine x_sub (by rfl) (by rfl) (by rfl) (by omega) ?_ | refine x_lss (by rfl) (by rfl) (by rfl) ?_ | refine x_geq (by rfl) (by rfl) (by rfl) ?_ | refine x_leq (by rfl) (by rfl) (by rfl) ?_ | refine x_gtr (by rfl) (by rfl) (by rfl) ?_ | refine x_eql (by rfl) (by rfl) (by rfl) ?_ | refine x_neq (by rfl) (by rfl) (by rfl) ?_ | refine x_not (by rfl) (by rfl) ?_)
      refine x_nilw ?_
      (repeat (first | refine swp_seq ?_ | refine swp_block ?_))
      refine swp_if (by rfl) (fun h1 => swp_skip ?_) (fun h1 => ?_)
      · have hj' : j < r.ms.length := by omega
        obtain ⟨m, hm⟩ := nthE hj'
        have rd := rR.rd
        obtain ⟨b2, o2, d2, he2, -, -⟩ := rd.pos (by omega)
        simp only [Value.slice.injEq] at he2
        obtain ⟨ea, _, rfl⟩ := he2
        rw [ea] at rd
        have hmm : m ∈ allMs rows := mem_flat hr0 (List.mem_of_getElem? hm)
        have hlo : out.length = j := by have := congrArg List.length hso; simp at this; omega
        (repeat (first | with_reducible refine n_then ?_ | with_reducible refine n_block ?_ | with_reducible refine n_jump ?_))
        refine swp_fit [(0, .slice (some ⟨b1, o1, none⟩) rows.length c0), (3, sw), (4, .int .i64 (i : Nat)), (5, sl5), (6, .int .i64 (j : Nat))] ⟨rfl, rfl, rfl, rfl, rfl, trivial⟩ fun ρ => ?_
        (repeat (first | refine swp_seq ?_ | refine swp_block ?_)); refine swp_region (by kernel_rfl) ?_
        repeat (first | refine x_move (by rfl) ?_ | refine x_as (by rfl) (by rfl) ?_ | refine x_skip (by rfl) ?_ | refine x_fld (by rfl) (by rfl) FldO.h ?_ | refine x_nilck (by rfl) (by rfl) ?_ | refine x_len (by rfl) (by rfl) ElOf.some ?_ | refine x_ext (by rfl) (by rfl) (by rfl) ?_ | refine x_pickT (by rfl) (by rfl) (by rfl) ?_ | refine x_pickF (by rfl) (by rfl) (by rfl) ?_ | refine x_add (by rfl) (by rfl) (by rfl) (by omega) ?_ | refine x_sub (by rfl) (by rfl) (by rfl) (by omega) ?_ | refine x_not (by rfl) (by rfl) ?_)
        refine x_idx i (by rfl) (by rfl) (by rfl) ElSz.h rfl hi' ?_
        refine w_load (by rfl) (by rfl) (load_one_cell OneT.h (rd_cell (v := .slice r.a r.ms.length r.c) (j := 0) ml_len g5 hr0 rfl rfl rfl)) ?_
        rw [ea]
        repeat (first | refine x_move (by rfl) ?_ | refine x_as (by rfl) (by rfl) ?_ | refine x_skip (by rfl) ?_ | refine x_fld (by rfl) (by rfl) FldO.h ?_ | refine x_nilck (by rfl) (by rfl) ?_ | refine x_len (by rfl) (by rfl) ElOf.some ?_ | refine x_ext (by rfl) (by rfl) (by rfl) ?_ | refine x_pickT (by rfl) (by rfl) (by rfl) ?_ | refine x_pickF (by rfl) (by rfl) (by rfl) ?_ | refine x_add (by rfl) (by rfl) (by rfl) (by omega) ?_ | refine x_sub (by rfl) (by rfl) (by rfl) (by omega) ?_ | refine x_not (by rfl) (by rfl) ?_)
        refine x_idx j (by rfl) (by rfl) (by rfl) ElSz.h rfl hj' ?_
        refine w_load (by rfl) (by rfl) (rd_load mt_len AggT.h (rd.at u35) hm rfl rfl) ?_
        refine w_call (by rfl) (by rfl) (by rfl) (twin_match m w5 (((flat_each hR hmm).1).at u35) (flat_each hR hmm).2) ?_
        rintro _ w6 ⟨y, rfl, hc⟩
        refine w_alloc (by rfl) (by rfl) ZeroT.h ?_; intro b7 w7 e7 u7 h7
        refine w_store (xs := y.cells) (by rfl) (by rfl) (by rfl) (by rfl) SzT.h (by rfl) (by rfl) h7 (by simp) ?_
        intro w8 u8 h8 _
        refine x_nilw ?_
        replace h8 : Blk w8 b7 29 y.cells := h8
        have u68 : Ext w6 w8 := u7.trans' u8 fun b hb e => by have e' : b = b7 := e; omega
        refine swp_fit [(0, .slice (some ⟨b1, o1, none⟩) rows.length c0), (3, sw), (4, .int .i64 (i : Nat)), (5, sl5), (6, .int .i64 (j : Nat)), (7, .pointer (some ⟨b7, 0, none⟩))] ⟨rfl, rfl, rfl, rfl, rfl, rfl, trivial⟩ fun ρ => ?_
        (repeat (first | refine swp_seq ?_ | refine swp_block ?_)); refine swp_region (by kernel_rfl) ?_
        repeat (first | refine x_move (by rfl) ?_ | refine x_as (by rfl) (by rfl) ?_ | refine x_skip (by rfl) ?_ | refine x_fld (by rfl) (by rfl) FldO.h ?_ | refine x_nilck (by rfl) (by rfl) ?_ | refine x_len (by rfl) (by rfl) ElOf.some ?_ | refine x_ext (by rfl) (by rfl) (by rfl) ?_ | refine x_pickT (by rfl) (by rfl) (by rfl) ?_ | refine x_pickF (by rfl) (by rfl) (by rfl) ?_ | refine x_add (by rfl) (by rfl) (by rfl) (by omega) ?_ | refine x_sub (by rfl) (by rfl) (by rfl) (by omega) ?_ | refine x_not (by rfl) (by rfl) ?_)
        refine w_load (by rfl) (by rfl) (load_agg (xs := y.cells) AggT.h h8 (by rfl) (by rfl)) ?_
        refine w_bslice (e := 29) (cs := y.cells) (by rfl) (by rfl) (by rfl) (by kernel_rfl) ?_
        intro b9 w9 e9 u9 h9
        have hc9 : Copy w5 w9 m y := ⟨hc.says, hc.own.get (u68.trans u9) fun _ _ h => h, hc.new, hc.ext.trans (u68.trans u9)⟩
        refine w_append (more := []) (news := y.cells) (by rfl) (by rfl) (by rfl) (by rfl) SlC.h (hO.own.at hc9.ext) (by rw [List.append_nil]; exact h9) (mt_len _) (mt_one _) (by omega) (hr80.le (by omega)) ?_
        intro sl' w10 hown10 u10 hin10
        repeat (first | refine x_move (by rfl) ?_ | refine x_as (by rfl) (by rfl) ?_ | refine x_skip (by rfl) ?_ | refine x_fld (by rfl) (by rfl) FldO.h ?_ | refine x_nilck (by rfl) (by rfl) ?_ | refine x_len (by rfl) (by rfl) ElOf.some ?_ | refine x_ext (by rfl) (by rfl) (by rfl) ?_ | refine x_pickT (by rfl) (by rfl) (by rfl) ?_ | refine x_pickF (by rfl) (by rfl) (by rfl) ?_ | refine x_add (by rfl) (by rfl) (by rfl) (by omega) ?_ | refine x_sub (by rfl) (by rfl) (by rfl) (by omega) ?_ | refine x_not (by rfl) (by rfl) ?_)
        refine x_nilw ?_
        have hO10 := hO.push u5.size hc9 hown10 u10 hin10
        (repeat (first | with_reducible refine n_then ?_ | with_reducible refine n_block ?_ | with_reducible refine n_jump ?_))
        (repeat (first | refine swp_seq ?_ | refine swp_block ?_)); refine swp_region (by kernel_rfl) ?_
        repeat (first | refine x_move (by rfl) ?_ | refine x_as (by rfl) (by rfl) ?_ | refine x_skip (by rfl) ?_ | refine x_fld (by rfl) (by rfl) FldO.h ?_ | refine w_load (by rfl) (by rfl) (load_one OneT.h (by assumption) (by rfl)) ?_ | refine x_nilck (by rfl) (by rfl) ?_ | refine x_len (by rfl) (by rfl) ElOf.some ?_ | refine x_iface (by rfl) (by rfl) NIf.h ?_ | refine x_ext (by rfl) (by rfl) (by rfl) ?_ | refine x_pickT (by rfl) (by rfl) (by rfl) ?_ | refine x_pickF (by rfl) (by rfl) (by rfl) ?_ | refine x_add (by rfl) (by rfl) (by rfl) (by omega) ?_ | refine x_sub (by rfl) (by rfl) (by rfl) (by omega) ?_ | refine x_lss (by rfl) (by rfl) (by rfl) ?_ | refine x_geq (by rfl) (by rfl) (by rfl) ?_ | refine x_leq (by rfl) (by rfl) (by rfl) ?_ | refine x_gtr (by rfl) (by rfl) (by rfl) ?_ | refine x_eql (by rfl) (by rfl) (by rfl) ?_ | refine x_neq (by rfl) (by rfl) (by rfl) ?_ | refine x_not (by rfl) (by rfl) ?_)
        refine x_nilw ?_
        exact ⟨j + 1, ⟨sl', out ++ [y], at_ ⟨rfl, rfl, rfl, rfl, rfl, trivial⟩, hj', hO10, by rw [List.map_append, hso, take_succ' hm, List.map_append]; simp [hc.says], (u5.trans hc9.ext).trans' u10 fun b hb h => by have := hO.new b h; omega⟩, by omega⟩
      · have hin : j = r.ms.length := by omega
        subst hin
        rw [List.take_length] at hso
        refine swp_exit ?_; (repeat (first | with_reducible refine e_then ?_ | with_reducible refine e_jump ?_)); refine e_block ?_; (repeat (first | with_reducible refine n_then ?_ | with_reducible refine n_block ?_ | with_reducible refine n_jump ?_))
        exact ⟨rfl, sl5, out, at_ ⟨rfl, rfl, rfl, rfl, trivial⟩, hO, hso, u5⟩
    · rintro σ w5 ⟨sl5, out, ⟨ρ, rfl⟩, hO, hso, u5⟩
      have hlo : out.length = r.ms.length := by have := congrArg List.length hso; simpa using this
      obtain ⟨a5, c5, rfl⟩ := hO.own.slice
      (repeat (first | with_reducible refine n_then ?_ | with_reducible refine n_block ?_ | with_reducible refine n_jump ?_))
      (repeat (first | refine swp_seq ?_ | refine swp_block ?_)); refine swp_region (by kernel_rfl) ?_
      repeat (first | refine x_move (by rfl) ?_ | refine x_as (by rfl) (by rfl) ?_ | refine x_skip (by rfl) ?_ | refine x_fld (by rfl) (by rfl) FldO.h ?_ | refine x_nilck (by rfl) (by rfl) ?_ | refine x_len (by rfl) (by rfl) ElOf.some ?_ | refine x_ext (by rfl) (by rfl) (by rfl) ?_ | refine x_pickT (by rfl) (by rfl) (by rfl) ?_ | refine x_pickF (by rfl) (by rfl) (by rfl) ?_ | refine x_add (by rfl) (by rfl) (by rfl) (by omega) ?_ | refine x_sub (by rfl) (by rfl) (by rfl) (by omega) ?_ | refine x_not (by rfl) (by rfl) ?_)
      refine w_bslice (e := 23) (cs := [.slice a5 out.length c5]) (by rfl) (by rfl) (by rfl) (by kernel_rfl) ?_
      intro b6 w6 e6 u6 h6
      refine w_append (more := []) (news := [.slice a5 out.length c5]) (by rfl) (by rfl) (by rfl) (by rfl) SlC.h (hW.own.at (u5.trans u6)) (by rw [List.append_nil]; exact h6) (by rfl) (by rfl) (by omega) (hr24.le (by omega)) ?_
      intro sw' w7 hown7 u7 hin7
      repeat (first | refine x_move (by rfl) ?_ | refine x_as (by rfl) (by rfl) ?_ | refine x_skip (by rfl) ?_ | refine x_fld (by rfl) (by rfl) FldO.h ?_ | refine x_nilck (by rfl) (by rfl) ?_ | refine x_len (by rfl) (by rfl) ElOf.some ?_ | refine x_ext (by rfl) (by rfl) (by rfl) ?_ | refine x_pickT (by rfl) (by rfl) (by rfl) ?_ | refine x_pickF (by rfl) (by rfl) (by rfl) ?_ | refine x_add (by rfl) (by rfl) (by rfl) (by omega) ?_ | refine x_sub (by rfl) (by rfl) (by rfl) (by omega) ?_ | refine x_not (by rfl) (by rfl) ?_)
      refine x_nilw ?_
      have hrow : Ml.Rdy w6 ⟨a5, c5, out⟩ := ⟨(hO.own.at u6).rd, fun m hm => ((hO.each m hm).get u6 fun _ _ h => h).rdy, fun m hm => (hO.each m hm).sm⟩
      have hW7 := hW.push (r := ⟨a5, c5, out⟩) u3.size hrow (fun b hb => by
        rcases hb with ⟨_, h⟩ | ⟨m, hm, h⟩
        · exact hO.new b h
        · exact hO.newE m hm b h.at) (u5.trans u6) hown7 u7 hin7
      (repeat (first | with_reducible refine n_then ?_ | with_reducible refine n_block ?_ | with_reducible refine n_jump ?_))
      (repeat (first | refine swp_seq ?_ | refine swp_block ?_)); refine swp_region (by kernel_rfl) ?_
      repeat (first | refine x_move (by rfl) ?_ | refine x_as (by rfl) (by rfl) ?_ | refine x_skip (by rfl) ?_ | refine x_fld (by rfl) (by rfl) FldO.h ?_ | refine w_load (by rfl) (by rfl) (load_one OneT.h (by assumption) (by rfl)) ?_ | refine x_nilck (by rfl) (by rfl) ?_ | refine x_len (by rfl) (by rfl) ElOf.some ?_ | refine x_iface (by rfl) (by rfl) NIf.h ?_ | refine x_ext (by rfl) (by rfl) (by rfl) ?_ | refine x_pickT (by rfl) (by rfl) (by rfl) ?_ | refine x_pickF (by rfl) (by rfl) (by rfl) ?_ | refine x_add (by rfl) (by rfl) (by rfl) (by omega) ?_ | refine x_sub (by rfl) (by rfl) (by rfl) (by omega) ?_ | refine x_lss (by rfl) (by rfl) (by rfl) ?_ | refine x_geq (by rfl) (by rfl) (by rfl) ?_ | refine x_leq (by rfl) (by rfl) (by rfl) ?_ | refine x_gtr (by rfl) (by rfl) (by rfl) ?_ | refine x_eql (by rfl) (by rfl) (by rfl) ?_ | refine x_neq (by rfl) (by rfl) (by rfl) ?_ | refine x_not (by rfl) (by rfl) ?_)
      refine x_nilw ?_
      refine ⟨i + 1, ⟨sw', _, at_ ⟨rfl, rfl, rfl, trivial⟩, hi', hW7, ?_, by simp [hlw], (u3.trans (u5.trans u6)).trans' u7 fun b hb h => by have := hW.new b h; omega⟩, by omega⟩
      rw [take_succ' hr0, says2, List.map_append, ← says2, hsay, says2, says2, List.map_append]
      simp [hso]
  · have hin : i = rows.length := by omega
    subst hin
    rw [List.take_length] at hsay
    refine swp_exit ?_; (repeat (first | with_reducible refine e_then ?_ | with_reducible refine e_jump ?_)); refine e_block ?_; (repeat (first | with_reducible refine n_then ?_ | with_reducible refine n_block ?_ | with_reducible refine n_jump ?_))
    refine swp_fit [(0, .slice a0 rows.length c0), (3, sw)] ⟨rfl, rfl, trivial⟩ fun ρ => ?_
    obtain ⟨aw, cw, rfl⟩ := hW.own.slice
    (repeat (first | refine swp_seq ?_ | refine swp_block ?_)); refine swp_region (by kernel_rfl) ?_
    repeat (first | refine x_move (by rfl) ?_ | refine x_as (by rfl) (by rfl) ?_ | refine x_skip (by rfl) ?_ | refine x_fld (by rfl) (by rfl) FldO.h ?_ | refine x_nilck (by rfl) (by rfl) ?_ | refine x_len (by rfl) (by rfl) ElOf.some ?_ | refine x_ext (by rfl) (by rfl) (by rfl) ?_ | refine x_pickT (by rfl) (by rfl) (by rfl) ?_ | refine x_pickF (by rfl) (by rfl) (by rfl) ?_ | refine x_add (by rfl) (by rfl) (by rfl) (by omega) ?_ | refine x_sub (by rfl) (by rfl) (by rfl) (by omega) ?_ | refine x_not (by rfl) (by rfl) ?_)
    refine w_call (by rfl) (by rfl) (by rfl) (merge_walk g3 (fun r hr => (hR r hr).at u3) (by omega) hr88 (by omega)) ?_
    rintro vg w4 ⟨got, hG, hgs, u4⟩
    repeat (first | refine x_move (by rfl) ?_ | refine x_as (by rfl) (by rfl) ?_ | refine x_skip (by rfl) ?_ | refine x_fld (by rfl) (by rfl) FldO.h ?_ | refine x_nilck (by rfl) (by rfl) ?_ | refine x_len (by rfl) (by rfl) ElOf.some ?_ | refine x_ext (by rfl) (by rfl) (by rfl) ?_ | refine x_pickT (by rfl) (by rfl) (by rfl) ?_ | refine x_pickF (by rfl) (by rfl) (by rfl) ?_ | refine x_add (by rfl) (by rfl) (by rfl) (by omega) ?_ | refine x_sub (by rfl) (by rfl) (by rfl) (by omega) ?_ | refine x_not (by rfl) (by rfl) ?_)
    refine x_nilw ?_
    have hW4 := hW.get u4 fun b _ _ h => h
    have hlw2 := len_of hsay
    (repeat (first | refine swp_seq ?_ | refine swp_block ?_)); refine swp_region (by kernel_rfl) ?_
    repeat (first | refine x_move (by rfl) ?_ | refine x_as (by rfl) (by rfl) ?_ | refine x_skip (by rfl) ?_ | refine x_fld (by rfl) (by rfl) FldO.h ?_ | refine x_nilck (by rfl) (by rfl) ?_ | refine x_len (by rfl) (by rfl) ElOf.some ?_ | refine x_ext (by rfl) (by rfl) (by rfl) ?_ | refine x_pickT (by rfl) (by rfl) (by rfl) ?_ | refine x_pickF (by rfl) (by rfl) (by rfl) ?_ | refine x_add (by rfl) (by rfl) (by rfl) (by omega) ?_ | refine x_sub (by rfl) (by rfl) (by rfl) (by omega) ?_ | refine x_not (by rfl) (by rfl) ?_)
    refine w_call (by rfl) (by rfl) (by rfl) (ref_merge hW4.own.rd hW4.each (by omega) (by rw [hlw2]; exact hr80)) ?_
    rintro vf w5 ⟨want, hF, hfs, u5⟩
    have hG5 := hG.get u5 fun b _ _ h => h
    have hmg := merged_of hsay
    have hgw : SaysL got want := by unfold SaysL; rw [hgs, hfs, hmg]
    have hlg : got.length = (allMs rows).length := by
      have := congrArg List.length hgs
      rw [List.length_map, merged, len_foldl_put, List.length_map] at this
      simpa using this
    refine w_call (by rfl) (by rfl) (by rfl) (same_matches hG5.own.rd hF.own.rd (fun y hy => (hG5.each y hy).rdy) (fun y hy => (hF.each y hy).rdy) hgw (by omega)) ?_
    rintro _ w6 ⟨rfl, u6⟩
    repeat (first | refine x_move (by rfl) ?_ | refine x_as (by rfl) (by rfl) ?_ | refine x_skip (by rfl) ?_ | refine x_fld (by rfl) (by rfl) FldO.h ?_ | refine x_nilck (by rfl) (by rfl) ?_ | refine x_len (by rfl) (by rfl) ElOf.some ?_ | refine x_ext (by rfl) (by rfl) (by rfl) ?_ | refine x_pickT (by rfl) (by rfl) (by rfl) ?_ | refine x_pickF (by rfl) (by rfl) (by rfl) ?_ | refine x_add (by rfl) (by rfl) (by rfl) (by omega) ?_ | refine x_sub (by rfl) (by rfl) (by rfl) (by omega) ?_ | refine x_not (by rfl) (by rfl) ?_)
    refine x_nilw ?_
    have hW6 := (hW4.get u5 fun b _ _ h => h).get u6 fun b _ _ h => h
    have u36 := ((u3.trans u4).trans u5).trans u6
    refine swp_fit [(0, .slice a0 rows.length c0), (3, .slice aw wr.length cw), (48, .bool false)] ⟨rfl, rfl, rfl, trivial⟩ fun ρ => ?_
    (repeat (first | refine swp_seq ?_ | refine swp_block ?_))
    refine swp_false (by rfl) (swp_skip ?_)
    (repeat (first | refine swp_seq ?_ | refine swp_block ?_)); refine swp_region (by kernel_rfl) ?_
    repeat (first | refine x_move (by rfl) ?_ | refine x_as (by rfl) (by rfl) ?_ | refine x_skip (by rfl) ?_ | refine x_fld (by rfl) (by rfl) FldO.h ?_ | refine x_nilck (by rfl) (by rfl) ?_ | refine x_len (by rfl) (by rfl) ElOf.some ?_ | refine x_ext (by rfl) (by rfl) (by rfl) ?_ | refine x_pickT (by rfl) (by rfl) (by rfl) ?_ | refine x_pickF (by rfl) (by rfl) (by rfl) ?_ | refine x_add (by rfl) (by rfl) (by rfl) (by omega) ?_ | refine x_sub (by rfl) (by rfl) (by rfl) (by omega) ?_ | refine x_not (by rfl) (by rfl) ?_)
    refine x_nilw ?_
    (repeat (first | refine swp_seq ?_ | refine swp_block ?_))
    refine swp_loop (fun (i : Nat) σ w7 => At σ [(0, .slice a0 rows.length c0), (3, .slice aw wr.length cw), (9, .int .i64 (i : Nat))] ∧ i ≤ rows.length ∧ Ext w6 w7) (fun i => rows.length - i) 0 ⟨at_ ⟨rfl, rfl, rfl, trivial⟩, by omega, Upd.refl _ _⟩ ?_
    rintro i σ w7 ⟨⟨ρ, rfl⟩, hi, u7⟩
    have g7 := hrd.at (u36.trans u7)
    have hW7 := hW6.get u7 fun b _ _ h => h
    (repeat (first | refine swp_seq ?_ | refine swp_block ?_)); refine swp_region (by kernel_rfl) ?_
    repeat (first | refine x_move (by rfl) ?_ | refine x_as (by rfl) (by rfl) ?_ | refine x_skip (by rfl) ?_ | refine x_fld (by rfl) (by rfl) FldO.h ?_ | refine w_load (by rfl) (by rfl) (load_one OneT.h (by assumption) (by rfl)) ?_ | refine x_nilck (by rfl) (by rfl) ?_ | refine x_len (by rfl) (by rfl) ElOf.some ?_ | refine x_iface (by rfl) (by rfl) NIf.h ?_ | refine x_ext (by rfl) (by rfl) (by rfl) ?_ | refine x_pickT (by rfl) (by rfl) (by rfl) ?_ | refine x_pickF (by rfl) (by rfl) (by rfl) ?_ | refine x_add (by rfl) (by rfl) (by rfl) (by omega) ?_ | refine x_sub (by rfl) (by rfl) (by rfl) (by omega) ?_ | refine x_lss (by rfl) (by rfl) (by rfl) ?_ | refine x_geq (by rfl) (by rfl) (by rfl) ?_ | refine x_leq (by rfl) (by rfl) (by rfl) ?_ | refine x_gtr (by rfl) (by rfl) (by rfl) ?_ | refine x_eql (by rfl) (by rfl) (by rfl) ?_ | refine x_neq (by rfl) (by rfl) (by rfl) ?_ | refine x_not (by rfl) (by rfl) ?_)
    refine x_nilw ?_
    (repeat (first | refine swp_seq ?_ | refine swp_block ?_))
    refine swp_if (by rfl) (fun h0 => swp_skip ?_) (fun h0 => ?_)
    · have hi' : i < rows.length := by omega
      obtain ⟨r, hr0⟩ := nthE hi'
      obtain ⟨q, hq0⟩ := nthE (L := wr) (i := i) (by omega)
      have rR := (hR r (List.mem_of_getElem? hr0)).at (u36.trans u7)
      have qR := hW7.each q (List.mem_of_getElem? hq0)
      have hqr : q.ms.map Mt.says = r.ms.map Mt.says := by
        have h1 : (says2 wr)[i]? = some (q.ms.map Mt.says) := by rw [says2, List.getElem?_map, hq0]; rfl
        have h2 : (says2 rows)[i]? = some (r.ms.map Mt.says) := by rw [says2, List.getElem?_map, hr0]; rfl
        rw [hsay, h2] at h1
        injection h1 with h1
        exact h1.symm
      have rdw := hW7.own.rd
      obtain ⟨b1, o1, d1, he1, -, -⟩ := g7.pos (by omega)
      simp only [Value.slice.injEq] at he1
      obtain ⟨rfl, _, rfl⟩ := he1
      obtain ⟨b2, o2, d2, he2, -, -⟩ := rdw.pos (by omega)
      simp only [Value.slice.injEq] at he2
      obtain ⟨rfl, _, rfl⟩ := he2
      have hfl := flat_len hr0
      (repeat (first | with_reducible refine n_then ?_ | with_reducible refine n_block ?_ | with_reducible refine n_jump ?_))
      (repeat (first | refine swp_seq ?_ | refine swp_block ?_)); refine swp_draw (Ext w7) [] Mixed.h (by kernel_rfl) (by kernel_rfl) (ext_drew w7) ?_
      repeat (first | refine x_move (by rfl) ?_ | refine x_as (by rfl) (by rfl) ?_ | refine x_skip (by rfl) ?_ | refine x_fld (by rfl) (by rfl) FldO.h ?_ | refine x_nilck (by rfl) (by rfl) ?_ | refine x_len (by rfl) (by rfl) ElOf.some ?_ | refine x_ext (by rfl) (by rfl) (by rfl) ?_ | refine x_pickT (by rfl) (by rfl) (by rfl) ?_ | refine x_pickF (by rfl) (by rfl) (by rfl) ?_ | refine x_add (by rfl) (by rfl) (by rfl) (by omega) ?_ | refine x_sub (by rfl) (by rfl) (by rfl) (by omega) ?_ | refine x_not (by rfl) (by rfl) ?_)
      refine x_idx i (by rfl) (by rfl) (by rfl) ElSz.h rfl hi' ?_
      refine q_load (by rfl) (by rfl) (by rfl) (fun w' hw' => load_one_cell OneT.h (rd_cell (v := .slice r.a r.ms.length r.c) (j := 0) ml_len (g7.at hw') hr0 rfl rfl rfl)) ?_
      repeat (first | refine x_move (by rfl) ?_ | refine x_as (by rfl) (by rfl) ?_ | refine x_skip (by rfl) ?_ | refine x_fld (by rfl) (by rfl) FldO.h ?_ | refine x_nilck (by rfl) (by rfl) ?_ | refine x_len (by rfl) (by rfl) ElOf.some ?_ | refine x_ext (by rfl) (by rfl) (by rfl) ?_ | refine x_pickT (by rfl) (by rfl) (by rfl) ?_ | refine x_pickF (by rfl) (by rfl) (by rfl) ?_ | refine x_add (by rfl) (by rfl) (by rfl) (by omega) ?_ | refine x_sub (by rfl) (by rfl) (by rfl) (by omega) ?_ | refine x_not (by rfl) (by rfl) ?_)
      refine x_idx i (by rfl) (by rfl) (by rfl) ElSz.h rfl (by omega) ?_
      refine q_load (by rfl) (by rfl) (by rfl) (fun w' hw' => load_one_cell OneT.h (rd_cell (v := .slice q.a q.ms.length q.c) (j := 0) ml_len (rdw.at hw') hq0 rfl rfl rfl)) ?_
      refine q_call (v := .bool true) (by rfl) (by rfl) (by rfl) (fun w' hw' => (same_matches (rR.at hw').rd (qR.at hw').rd (rR.at hw').each (qR.at hw').each hqr.symm (by omega)).mono fun v w'' h => ⟨h.1, hw'.trans h.2⟩) ?_
      repeat (first | refine x_move (by rfl) ?_ | refine x_as (by rfl) (by rfl) ?_ | refine x_skip (by rfl) ?_ | refine x_fld (by rfl) (by rfl) FldO.h ?_ | refine x_nilck (by rfl) (by rfl) ?_ | refine x_len (by rfl) (by rfl) ElOf.some ?_ | refine x_ext (by rfl) (by rfl) (by rfl) ?_ | refine x_pickT (by rfl) (by rfl) (by rfl) ?_ | refine x_pickF (by rfl) (by rfl) (by rfl) ?_ | refine x_add (by rfl) (by rfl) (by rfl) (by omega) ?_ | refine x_sub (by rfl) (by rfl) (by rfl) (by omega) ?_ | refine x_not (by rfl) (by rfl) ?_)
      refine x_nil fun w8 u8 => ?_
      (repeat (first | refine swp_seq ?_ | refine swp_block ?_))
      refine swp_false (by rfl) (swp_skip ?_)
      (repeat (first | with_reducible refine n_then ?_ | with_reducible refine n_block ?_ | with_reducible refine n_jump ?_))
      (repeat (first | refine swp_seq ?_ | refine swp_block ?_)); refine swp_region (by kernel_rfl) ?_
      repeat (first | refine x_move (by rfl) ?_ | refine x_as (by rfl) (by rfl) ?_ | refine x_skip (by rfl) ?_ | refine x_fld (by rfl) (by rfl) FldO.h ?_ | refine w_load (by rfl) (by rfl) (load_one OneT.h (by assumption) (by rfl)) ?_ | refine x_nilck (by rfl) (by rfl) ?_ | refine x_len (by rfl) (by rfl) ElOf.some ?_ | refine x_iface (by rfl) (by rfl) NIf.h ?_ | refine x_ext (by rfl) (by rfl) (by rfl) ?_ | refine x_pickT (by rfl) (by rfl) (by rfl) ?_ | refine x_pickF (by rfl) (by rfl) (by rfl) ?_ | refine x_add (by rfl) (by rfl) (by rfl) (by omega) ?_ | refine x_sub (by rfl) (by rfl) (by rfl) (by omega) ?_ | refine x_lss (by rfl) (by rfl) (by rfl) ?_ | refine x_geq (by rfl) (by rfl) (by rfl) ?_ | refine x_leq (by rfl) (by rfl) (by rfl) ?_ | refine x_gtr (by rfl) (by rfl) (by rfl) ?_ | refine x_eql (by rfl) (by rfl) (by rfl) ?_ | refine x_neq (by rfl) (by rfl) (by rfl) ?_ | refine x_not (by rfl) (by rfl) ?_)
      refine x_nilw ?_
      exact ⟨i + 1, ⟨at_ ⟨rfl, rfl, rfl, trivial⟩, hi', u7.trans u8⟩, by omega⟩
    · refine swp_exit ?_; (repeat (first | with_reducible refine e_then ?_ | with_reducible refine e_jump ?_)); refine e_block ?_; (repeat (first | with_reducible refine n_then ?_ | with_reducible refine n_block ?_ | with_reducible refine n_jump ?_))
      (repeat (first | refine swp_seq ?_ | refine swp_block ?_)); refine swp_region (by kernel_rfl) ?_
      repeat (first | refine x_move (by rfl) ?_ | refine x_as (by rfl) (by rfl) ?_ | refine x_skip (by rfl) ?_ | refine x_fld (by rfl) (by rfl) FldO.h ?_ | refine x_nilck (by rfl) (by rfl) ?_ | refine x_len (by rfl) (by rfl) ElOf.some ?_ | refine x_ext (by rfl) (by rfl) (by rfl) ?_ | refine x_pickT (by rfl) (by rfl) (by rfl) ?_ | refine x_pickF (by rfl) (by rfl) (by rfl) ?_ | refine x_add (by rfl) (by rfl) (by rfl) (by omega) ?_ | refine x_sub (by rfl) (by rfl) (by rfl) (by omega) ?_ | refine x_not (by rfl) (by rfl) ?_)
      refine x_nilw ?_
      refine swp_ret ?_; (repeat (first | with_reducible refine r_then ?_ | with_reducible refine r_block ?_ | with_reducible refine r_jump ?_))
      exact post1 rfl rfl ⟨_, rfl, rfl, u36.trans u7⟩
end Go.Proofs.Ytpnigekkbmanlaa
