/- DuePlays' walk: the api's Due and the document's answer alike at every step. Conditions: what is read; room. -/
import Derived.Test.YtpnigekkbmanlaaMa
import Derived.Test.YtpnigekkbmanlaaOp
import Derived.Test.YtpnigekkbmanlaaCp
import Derived.Test.YtpnigekkbmanlaaFl
namespace Go.Proofs.Ytpnigekkbmanlaa
open Sx Hp

/-- both, and what they hold -/
structure Pl8 (w wk : World) (bd bm : Nat) (G1 G2 : Nat → Prop) (S T : List Wt) (N : Nat) : Prop where
  dv : Dv wk bd G1 S N
  dm : Dm wk bm G2 T
  l1 : ∀ b, G1 b → w.heap.size ≤ b ∧ b < wk.heap.size
  l2 : ∀ b, G2 b → w.heap.size ≤ b ∧ b < wk.heap.size
  ap : ∀ b, G1 b → ¬G2 b
  same : T.map Wt.says = S.map Wt.says
  ext : Ext w wk
theorem len1'' {α : Type} {l : List α} (h : l.length = 1) : ∃ a, l = [a] := by
  match l, h with
  | [a], _ => exact ⟨a, rfl⟩
section
variable {w wk wn : World} {bd bm : Nat} {G1 G2 : Nat → Prop} {S T : List Wt} {N : Nat}
theorem Pl8.at (h : Pl8 w wk bd bm G1 G2 S T N) (u : Ext wk wn) : Pl8 w wn bd bm G1 G2 S T N := by
  have := u.size
  exact ⟨h.dv.at u, h.dm.at u, fun b hb => ⟨(h.l1 b hb).1, by have := (h.l1 b hb).2; omega⟩, fun b hb => ⟨(h.l2 b hb).1, by have := (h.l2 b hb).2; omega⟩, h.ap, h.same, h.ext.trans u⟩
theorem Pl8.len (h : Pl8 w wk bd bm G1 G2 S T N) : T.length = S.length := by simpa using congrArg List.length h.same
/-- both take a step -/
theorem Pl8.both {w5 w6 : World} {G1' G2' : Nat → Prop} {S' T' : List Wt} {N' : Nat} (h : Pl8 w wk bd bm G1 G2 S T N) (u5 : Upd G1 wk w5) (hd : Dv w5 bd G1' S' N') (k1 : ∀ b, G1' b → G1 b ∨ wk.heap.size ≤ b) (u6 : Upd G2 w5 w6) (hm : Dm w6 bm G2' T') (k2 : ∀ b, G2' b → G2 b ∨ w5.heap.size ≤ b) (hs : T'.map Wt.says = S'.map Wt.says) :
    Pl8 w w6 bd bm (fun b => G1' b ∧ b < w5.heap.size) (fun b => G2' b ∧ b < w6.heap.size) S' T' N' := by
  have s0 := h.ext.size; have s5 := u5.size; have s6 := u6.size
  refine ⟨hd.shrink.get u6 fun b hb hg h2 => ?_, hm.shrink, fun b hb => ⟨?_, by have := hb.2; omega⟩, fun b hb => ⟨?_, hb.2⟩, fun b hb hb2 => ?_, hs, (h.ext.trans' u5 fun b hb h1 => by have := (h.l1 b h1).1; omega).trans' u6 fun b hb h2 => by have := (h.l2 b h2).1; omega⟩
  · rcases k1 b hg.1 with h1 | h1
    · exact h.ap b h1 h2
    · have := (h.l2 b h2).2; omega
  · rcases k1 b hb.1 with h1 | h1
    · exact (h.l1 b h1).1
    · omega
  · rcases k2 b hb.1 with h1 | h1
    · exact (h.l2 b h1).1
    · omega
  · rcases k2 b hb2.1 with h2 | h2
    · rcases k1 b hb.1 with h1 | h1
      · exact h.ap b h1 h2
      · have := (h.l2 b h2).2; omega
    · have := hb.2; omega
theorem same_key {S T : List Wt} (h : T.map Wt.says = S.map Wt.says) {k : Int × List Nm × List Int} : (∃ y ∈ T, y.m.key = k) ↔ ∃ y ∈ S, y.m.key = k := by
  have hm : ∀ s, (∃ y ∈ T, y.says = s) ↔ ∃ y ∈ S, y.says = s := fun s => by
    have : s ∈ T.map Wt.says ↔ s ∈ S.map Wt.says := by rw [h]
    simpa only [List.mem_map] using this
  constructor
  · rintro ⟨y, hy, hk⟩
    obtain ⟨z, hz, hs⟩ := (hm _).1 ⟨y, hy, rfl⟩
    exact ⟨z, hz, by rw [says_key hs, hk]⟩
  · rintro ⟨y, hy, hk⟩
    obtain ⟨z, hz, hs⟩ := (hm _).2 ⟨y, hy, rfl⟩
    exact ⟨z, hz, by rw [says_key hs, hk]⟩
theorem same_put {S T : List Wt} (h : T.map Wt.says = S.map Wt.says) {x y : Wt} (hs : y.says = x.says) : (put wlt T y).map Wt.says = (put wlt S x).map Wt.says := by
  rw [put_map (l1 := wlt) (l2 := wls) (f := Wt.says) (fun _ _ => rfl), put_map (l1 := wlt) (l2 := wls) (f := Wt.says) (fun _ _ => rfl), h, hs]
end

set_option maxHeartbeats 4000000 in
set_option maxRecDepth 100000 in
theorem walk8 {w : World} {a0 : Option Addr} {c0 : Nat} {ls : List Op7} (h1 : Rd w 7 (.slice a0 ls.length c0) ls.length (fl Op7.cells ls)) (hRw : ∀ o ∈ ls, o.wt.Rdy w) (hb : ls.length * 104 ≤ 140737488351232) :
    Gets Try.prog 8 [.slice a0 ls.length c0] w fun v w' => v = .bool true ∧ Ext w w' := by
  have hr112 : Room ls.length 112 := by
    refine ⟨by omega, ?_⟩
    rw [Nat.add_mul, Nat.add_mul]
    omega
  have hr104 : Room ls.length 104 := hr112.bytes (by omega)
  refine ⟨GoFn.h, calls_of_swp 90 Try.func8 Try.ntmps8 rfl (Nat.le_of_ble_eq_true rfl) ?_⟩
  (repeat (first | refine swp_seq ?_ | refine swp_block ?_)); refine swp_region (by kernel_rfl) ?_
  repeat (first | refine x_move (by rfl) ?_ | refine x_as (by rfl) (by rfl) ?_ | refine x_skip (by rfl) ?_ | refine x_fld (by rfl) (by rfl) FldO.h ?_ | refine x_nilck (by rfl) (by rfl) ?_ | refine x_len (by rfl) (by rfl) ElOf.some ?_ | refine x_ext (by rfl) (by rfl) (by rfl) ?_ | refine x_pickT (by rfl) (by rfl) (by rfl) ?_ | refine x_pickF (by rfl) (by rfl) (by rfl) ?_ | refine x_add (by rfl) (by rfl) (by rfl) (by omega) ?_ | refine x_sub (by rfl) (by rfl) (by rfl) (by omega) ?_ | refine x_not (by rfl) (by rfl) ?_)
  refine x_nilw ?_
  (repeat (first | refine swp_seq ?_ | refine swp_block ?_)); refine swp_region (by kernel_rfl) ?_
  refine w_call (by rfl) (by rfl) (by rfl) (due_new w) ?_
  rintro _ w1 ⟨bd, rfl, hd1, u1⟩
  repeat (first | refine x_move (by rfl) ?_ | refine x_as (by rfl) (by rfl) ?_ | refine x_skip (by rfl) ?_ | refine x_fld (by rfl) (by rfl) FldO.h ?_ | refine x_nilck (by rfl) (by rfl) ?_ | refine x_len (by rfl) (by rfl) ElOf.some ?_ | refine x_ext (by rfl) (by rfl) (by rfl) ?_ | refine x_pickT (by rfl) (by rfl) (by rfl) ?_ | refine x_pickF (by rfl) (by rfl) (by rfl) ?_ | refine x_add (by rfl) (by rfl) (by rfl) (by omega) ?_ | refine x_sub (by rfl) (by rfl) (by rfl) (by omega) ?_ | refine x_not (by rfl) (by rfl) ?_)
  refine x_nilw ?_
  (repeat (first | refine swp_seq ?_ | refine swp_block ?_)); refine swp_region (by kernel_rfl) ?_
  repeat (first | refine x_move (by rfl) ?_ | refine x_as (by rfl) (by rfl) ?_ | refine x_skip (by rfl) ?_ | refine x_fld (by rfl) (by rfl) FldO.h ?_ | refine x_nilck (by rfl) (by rfl) ?_ | refine x_len (by rfl) (by rfl) ElOf.some ?_ | refine x_ext (by rfl) (by rfl) (by rfl) ?_ | refine x_pickT (by rfl) (by rfl) (by rfl) ?_ | refine x_pickF (by rfl) (by rfl) (by rfl) ?_ | refine x_add (by rfl) (by rfl) (by rfl) (by omega) ?_ | refine x_sub (by rfl) (by rfl) (by rfl) (by omega) ?_ | refine x_not (by rfl) (by rfl) ?_)
  refine x_eqlP Try.underlying41 (by rfl) (by rfl) (by rfl) ?_
  refine x_nilw ?_
  (repeat (first | refine swp_seq ?_ | refine swp_block ?_))
  refine swp_false (by rfl) (swp_skip ?_)
  (repeat (first | refine swp_seq ?_ | refine swp_block ?_)); refine swp_region (by kernel_rfl) ?_
  refine w_call (by rfl) (by rfl) (by rfl) (model_new w1) ?_
  rintro _ w0 ⟨bm, rfl, hm0, u0⟩
  repeat (first | refine x_move (by rfl) ?_ | refine x_as (by rfl) (by rfl) ?_ | refine x_skip (by rfl) ?_ | refine x_fld (by rfl) (by rfl) FldO.h ?_ | refine x_nilck (by rfl) (by rfl) ?_ | refine x_len (by rfl) (by rfl) ElOf.some ?_ | refine x_ext (by rfl) (by rfl) (by rfl) ?_ | refine x_pickT (by rfl) (by rfl) (by rfl) ?_ | refine x_pickF (by rfl) (by rfl) (by rfl) ?_ | refine x_add (by rfl) (by rfl) (by rfl) (by omega) ?_ | refine x_sub (by rfl) (by rfl) (by rfl) (by omega) ?_ | refine x_not (by rfl) (by rfl) ?_)
  refine x_nilw ?_
  (repeat (first | refine swp_seq ?_ | refine swp_block ?_)); refine swp_region (by kernel_rfl) ?_
  repeat (first | refine x_move (by rfl) ?_ | refine x_as (by rfl) (by rfl) ?_ | refine x_skip (by rfl) ?_ | refine x_fld (by rfl) (by rfl) FldO.h ?_ | refine x_nilck (by rfl) (by rfl) ?_ | refine x_len (by rfl) (by rfl) ElOf.some ?_ | refine x_ext (by rfl) (by rfl) (by rfl) ?_ | refine x_pickT (by rfl) (by rfl) (by rfl) ?_ | refine x_pickF (by rfl) (by rfl) (by rfl) ?_ | refine x_add (by rfl) (by rfl) (by rfl) (by omega) ?_ | refine x_sub (by rfl) (by rfl) (by rfl) (by omega) ?_ | refine x_not (by rfl) (by rfl) ?_)
  refine x_nilw ?_
  have s1 := u1.size; have s0 := u0.size
  have hP0 : Pl8 w w0 bd bm _ _ [] [] 0 := ⟨hd1.shrink.at u0, hm0.shrink, fun b hb => ⟨hb.1, by have := hb.2; omega⟩, fun b hb => ⟨by have := hb.1; omega, hb.2⟩, fun b h h2 => by have := h.2; have := h2.1; omega, rfl, u1.trans u0⟩
  refine swp_fit [(0, .slice a0 ls.length c0), (3, .pointer (some ⟨bd, 0, none⟩)), (4, .pointer (some ⟨bm, 0, none⟩)), (5, .int .i64 ((0 : Nat) : Int))] ⟨rfl, rfl, rfl, rfl, trivial⟩ fun ρ => ?_
  (repeat (first | refine swp_seq ?_ | refine swp_block ?_))
  refine swp_loop (fun (i : Nat) σ w2 => ∃ G1 G2 S T N, At σ [(0, .slice a0 ls.length c0), (3, .pointer (some ⟨bd, 0, none⟩)), (4, .pointer (some ⟨bm, 0, none⟩)), (5, .int .i64 (i : Nat))] ∧ i ≤ ls.length ∧ Pl8 w w2 bd bm G1 G2 S T N ∧ S.length ≤ i ∧ N ≤ i) (fun i => ls.length - i) 0 ⟨_, _, [], [], 0, at_ ⟨rfl, rfl, rfl, rfl, trivial⟩, by omega, hP0, by simp, by omega⟩ ?_
  clear hP0 hd1 hm0 u1 u0 s1 s0
  rintro i σ w2 ⟨G1, G2, S, T, N, ⟨ρ, rfl⟩, hi, hP, hSl, hNl⟩
  (repeat (first | refine swp_seq ?_ | refine swp_block ?_)); refine swp_region (by kernel_rfl) ?_
  repeat (first | refine x_move (by rfl) ?_ | refine x_as (by rfl) (by rfl) ?_ | refine x_skip (by rfl) ?_ | refine x_fld (by rfl) (by rfl) FldO.h ?_ | refine w_load (by rfl) (by rfl) (load_one OneT.h (by assumption) (by rfl)) ?_ | refine x_nilck (by rfl) (by rfl) ?_ | refine x_len (by rfl) (by rfl) ElOf.some ?_ | refine x_iface (by rfl) (by rfl) NIf.h ?_ | refine x_ext (by rfl) (by rfl) (by rfl) ?_ | refine x_pickT (by rfl) (by rfl) (by rfl) ?_ | refine x_pickF (by rfl) (by rfl) (by rfl) ?_ | refine x_add (by rfl) (by rfl) (by rfl) (by omega) ?_ | refine x_sub (by rfl) (by rfl) (by rfl) (by omega) ?_ | refine x_lss (by rfl) (by rfl) (by rfl) ?_ | refine x_geq (by rfl) (by rfl) (by rfl) ?_ | refine x_leq (by rfl) (by rfl) (by rfl) ?_ | refine x_gtr (by rfl) (by rfl) (by rfl) ?_ | refine x_eql (by rfl) (by rfl) (by rfl) ?_ | refine x_neq (by rfl) (by rfl) (by rfl) ?_ | refine x_not (by rfl) (by rfl) ?_)
  refine x_nilw ?_
  (repeat (first | refine swp_seq ?_ | refine swp_block ?_))
  refine swp_if (by rfl) (fun h0 => swp_skip ?_) (fun h0 => ?_)
  · have hi' : i < ls.length := by omega
    obtain ⟨o, ho⟩ := nthE hi'
    have hoR := hRw o (List.mem_of_getElem? ho)
    obtain ⟨b1, o1, d1, he1, -, -⟩ := h1.pos (by omega)
    simp only [Value.slice.injEq] at he1
    obtain ⟨rfl, _, rfl⟩ := he1
    (repeat (first | with_reducible refine n_then ?_ | with_reducible refine n_block ?_ | with_reducible refine n_jump ?_))
    (repeat (first | refine swp_seq ?_ | refine swp_block ?_)); refine swp_region (by kernel_rfl) ?_
    repeat (first | refine x_move (by rfl) ?_ | refine x_as (by rfl) (by rfl) ?_ | refine x_skip (by rfl) ?_ | refine x_fld (by rfl) (by rfl) FldO.h ?_ | refine x_nilck (by rfl) (by rfl) ?_ | refine x_len (by rfl) (by rfl) ElOf.some ?_ | refine x_ext (by rfl) (by rfl) (by rfl) ?_ | refine x_pickT (by rfl) (by rfl) (by rfl) ?_ | refine x_pickF (by rfl) (by rfl) (by rfl) ?_ | refine x_add (by rfl) (by rfl) (by rfl) (by omega) ?_ | refine x_sub (by rfl) (by rfl) (by rfl) (by omega) ?_ | refine x_not (by rfl) (by rfl) ?_)
    refine x_idx i (by rfl) (by rfl) (by rfl) ElSz.h rfl hi' ?_
    refine w_load (by rfl) (by rfl) (rd_load op7_len AggT.h (h1.at hP.ext) ho rfl rfl) ?_
    refine w_alloc (by rfl) (by rfl) ZeroT.h ?_; intro b6 w3 e3 u3 h3
    refine w_store (xs := o.cells) (by rfl) (by rfl) (by rfl) (by rfl) SzT.h (by rfl) (by rfl) h3 (by simp) ?_
    intro w4 u4 h4 _
    refine x_nilw ?_
    replace h4 : Blk w4 b6 55 o.cells := h4
    have u24 : Ext w2 w4 := u3.trans' u4 fun b hb e => by have e' : b = b6 := e; omega
    have hn6 : ¬G1 b6 ∧ ¬G2 b6 := ⟨fun h => by have := (hP.l1 b6 h).2; omega, fun h => by have := (hP.l2 b6 h).2; omega⟩
    have hP4 := hP.at u24
    clear hP u24 u3 u4 h3
    have hTl := hP4.len
    (repeat (first | refine swp_seq ?_ | refine swp_block ?_)); refine swp_region (by kernel_rfl) ?_
    repeat (first | refine x_move (by rfl) ?_ | refine x_as (by rfl) (by rfl) ?_ | refine x_skip (by rfl) ?_ | refine x_fld (by rfl) (by rfl) FldO.h ?_ | refine x_nilck (by rfl) (by rfl) ?_ | refine x_len (by rfl) (by rfl) ElOf.some ?_ | refine x_ext (by rfl) (by rfl) (by rfl) ?_ | refine x_pickT (by rfl) (by rfl) (by rfl) ?_ | refine x_pickF (by rfl) (by rfl) (by rfl) ?_ | refine x_add (by rfl) (by rfl) (by rfl) (by omega) ?_ | refine x_sub (by rfl) (by rfl) (by rfl) (by omega) ?_ | refine x_not (by rfl) (by rfl) ?_)
    refine x_nilw ?_
    (repeat (first | refine swp_seq ?_ | refine swp_block ?_)); refine swp_region (by kernel_rfl) ?_
    repeat (first | refine x_move (by rfl) ?_ | refine x_as (by rfl) (by rfl) ?_ | refine x_skip (by rfl) ?_ | refine x_fld (by rfl) (by rfl) FldO.h ?_ | refine x_nilck (by rfl) (by rfl) ?_ | refine x_len (by rfl) (by rfl) ElOf.some ?_ | refine x_ext (by rfl) (by rfl) (by rfl) ?_ | refine x_pickT (by rfl) (by rfl) (by rfl) ?_ | refine x_pickF (by rfl) (by rfl) (by rfl) ?_ | refine x_add (by rfl) (by rfl) (by rfl) (by omega) ?_ | refine x_sub (by rfl) (by rfl) (by rfl) (by omega) ?_ | refine x_not (by rfl) (by rfl) ?_)
    refine w_load (by rfl) (by rfl) (load_one (v := .int .i64 o.kind) OneT.h h4 (by rfl)) ?_
    refine x_nilw ?_
    refine swp_fit [(0, .slice (some ⟨b1, o1, none⟩) ls.length c0), (3, .pointer (some ⟨bd, 0, none⟩)), (4, .pointer (some ⟨bm, 0, none⟩)), (5, .int .i64 (i : Nat)), (6, .pointer (some ⟨b6, 0, none⟩)), (7, .bool true), (32, .int .i64 o.kind)] ⟨rfl, rfl, rfl, rfl, rfl, rfl, rfl, trivial⟩ fun ρ => ?_
    refine PEv.swp_cutQ (fun σ w5 => ∃ G1 G2 S T N, At σ [(0, .slice (some ⟨b1, o1, none⟩) ls.length c0), (3, .pointer (some ⟨bd, 0, none⟩)), (4, .pointer (some ⟨bm, 0, none⟩)), (5, .int .i64 (i : Nat)), (7, .bool true)] ∧ Pl8 w w5 bd bm G1 G2 S T N ∧ S.length ≤ i + 1 ∧ N ≤ i + 1) ?_ ?_
    · (repeat (first | refine swp_seq ?_ | refine swp_block ?_))
      by_cases hk1 : o.kind = 1
      · (repeat (first | refine swp_seq ?_ | refine swp_block ?_)); refine swp_region (by kernel_rfl) ?_
        refine x_eqlT (by rfl) (by rfl) (by rfl) hk1 ?_
        repeat (first | refine x_move (by rfl) ?_ | refine x_as (by rfl) (by rfl) ?_ | refine x_skip (by rfl) ?_ | refine x_fld (by rfl) (by rfl) FldO.h ?_ | refine x_nilck (by rfl) (by rfl) ?_ | refine x_len (by rfl) (by rfl) ElOf.some ?_ | refine x_ext (by rfl) (by rfl) (by rfl) ?_ | refine x_pickT (by rfl) (by rfl) (by rfl) ?_ | refine x_pickF (by rfl) (by rfl) (by rfl) ?_ | refine x_add (by rfl) (by rfl) (by rfl) (by omega) ?_ | refine x_sub (by rfl) (by rfl) (by rfl) (by omega) ?_ | refine x_not (by rfl) (by rfl) ?_)
        refine x_nilw ?_
        (repeat (first | refine swp_seq ?_ | refine swp_block ?_))
        refine swp_true (by rfl) ?_
        (repeat (first | refine swp_seq ?_ | refine swp_block ?_)); refine swp_region (by kernel_rfl) ?_
        repeat (first | refine x_move (by rfl) ?_ | refine x_as (by rfl) (by rfl) ?_ | refine x_skip (by rfl) ?_ | refine x_fld (by rfl) (by rfl) FldO.h ?_ | refine x_nilck (by rfl) (by rfl) ?_ | refine x_len (by rfl) (by rfl) ElOf.some ?_ | refine x_ext (by rfl) (by rfl) (by rfl) ?_ | refine x_pickT (by rfl) (by rfl) (by rfl) ?_ | refine x_pickF (by rfl) (by rfl) (by rfl) ?_ | refine x_add (by rfl) (by rfl) (by rfl) (by omega) ?_ | refine x_sub (by rfl) (by rfl) (by rfl) (by omega) ?_ | refine x_not (by rfl) (by rfl) ?_)
        refine w_load (by rfl) (by rfl) (load_agg (xs := o.wt.cells) AggT.h h4 (by rfl) (by rfl)) ?_
        refine w_bslice (e := 40) (cs := o.wt.cells) (by rfl) (by rfl) (by rfl) (by kernel_rfl) ?_
        intro b7 w7 e7 u7 h7
        have u07 := hP4.ext.trans u7
        have hrl : RL w7 (.slice (some ⟨b7, 0, none⟩) 1 1) [o.wt] := by
          refine ⟨⟨by simp [fl_one, wt_len], _, _, rfl, fun _ => ⟨b7, 0, rfl, h7.lt, fun j v hj => ?_⟩⟩, fun y hy => ?_⟩
          · rw [fl_one] at hj
            exact h7.cell (by rw [Nat.zero_add]; exact hj)
          · rw [List.mem_singleton.1 hy]
            exact hoR.at u07
        refine w_call (by rfl) (by rfl) (by rfl) (copied hrl (by simp)) ?_
        rintro vl w8 ⟨out, hL, hsay, u8⟩
        have hl1 : out.length = 1 := by simpa using congrArg List.length hsay
        obtain ⟨y, rfl⟩ := len1'' hl1
        have hys : y.says = o.wt.says := by simpa using hsay
        have hyR := hL.each y (by simp)
        have hyn := hL.newE y (by simp)
        have rl8 := hL.rl
        obtain ⟨p1, q1, d1, he1, -, -⟩ := rl8.rd.pos (by simp)
        subst he1
        refine x_idx 0 (by rfl) (by rfl) (by rfl) ElSz.h rfl (by simp) ?_
        refine w_load (by rfl) (by rfl) (rd_load (x := y) (i := 0) wt_len AggT.h rl8.rd rfl rfl rfl) ?_
        refine w_alloc (by rfl) (by rfl) ZeroT.h ?_; intro b8 w9 e9 u9 h9
        refine w_store (xs := y.cells) (by rfl) (by rfl) (by rfl) (by rfl) SzT.h (by rfl) (by rfl) h9 (by simp) ?_
        intro w10 u10 h10 _
        refine x_nilw ?_
        replace h10 : Blk w10 b8 40 y.cells := h10
        have s7 := u7.size; have s8 := u8.size; have s9 := u9.size; have s10 := u10.size
        have u810 : Ext w8 w10 := u9.trans' u10 fun b hb e => by have e' : b = b8 := e; omega
        have u410 := (u7.trans u8).trans u810
        have hP10 := hP4.at u410
        have h410 := h4.at u410
        have oR := hoR.at hP10.ext
        have yR := hyR.at u810
        have yG : ∀ b, y.In b → ¬G1 b ∧ ¬G2 b := fun b hb => ⟨fun h => by have := hyn b hb; have := (hP4.l1 b h).2; omega, fun h => by have := hyn b hb; have := (hP4.l2 b h).2; omega⟩
        have hn8 : ¬G1 b8 ∧ ¬G2 b8 := ⟨fun h => by have := (hP4.l1 b8 h).2; omega, fun h => by have := (hP4.l2 b8 h).2; omega⟩
        have oG : ∀ b, o.wt.In b → ¬G1 b ∧ ¬G2 b := fun b hb => ⟨fun h => by have := hoR.lt hb; have := (hP4.l1 b h).1; omega, fun h => by have := hoR.lt hb; have := (hP4.l2 b h).1; omega⟩
        clear hL hyR hyn rl8 u9 u10 h9 hrl h7
        refine swp_fit [(0, .slice (some ⟨b1, o1, none⟩) ls.length c0), (3, .pointer (some ⟨bd, 0, none⟩)), (4, .pointer (some ⟨bm, 0, none⟩)), (5, .int .i64 (i : Nat)), (6, .pointer (some ⟨b6, 0, none⟩)), (7, .bool true), (8, .pointer (some ⟨b8, 0, none⟩))] ⟨rfl, rfl, rfl, rfl, rfl, rfl, rfl, trivial⟩ fun ρ => ?_
        (repeat (first | refine swp_seq ?_ | refine swp_block ?_))
        refine PEv.swp_cutQ (fun σ w11 => ∃ q : Bool, ∃ G' S' N', At σ [(0, .slice (some ⟨b1, o1, none⟩) ls.length c0), (3, .pointer (some ⟨bd, 0, none⟩)), (4, .pointer (some ⟨bm, 0, none⟩)), (5, .int .i64 (i : Nat)), (6, .pointer (some ⟨b6, 0, none⟩)), (7, .bool true), (8, .pointer (some ⟨b8, 0, none⟩)), (9, .bool q)] ∧ Upd G1 w10 w11 ∧ Dv w11 bd G' S' N' ∧ (∀ b, G' b → G1 b ∨ w10.heap.size ≤ b) ∧ N' ≤ i + 1 ∧ S'.length ≤ i + 1 ∧ (q = true → (¬∃ y ∈ S, y.m.key = o.wt.m.key) ∧ S'.map Wt.says = (put wlt S o.wt).map Wt.says) ∧ (q = false → (∃ y ∈ S, y.m.key = o.wt.m.key) ∧ S' = S)) ?_ ?_
        · (repeat (first | refine swp_seq ?_ | refine swp_block ?_)); refine swp_region (by kernel_rfl) ?_
          repeat (first | refine x_move (by rfl) ?_ | refine x_as (by rfl) (by rfl) ?_ | refine x_skip (by rfl) ?_ | refine x_fld (by rfl) (by rfl) FldO.h ?_ | refine x_nilck (by rfl) (by rfl) ?_ | refine x_len (by rfl) (by rfl) ElOf.some ?_ | refine x_ext (by rfl) (by rfl) (by rfl) ?_ | refine x_pickT (by rfl) (by rfl) (by rfl) ?_ | refine x_pickF (by rfl) (by rfl) (by rfl) ?_ | refine x_add (by rfl) (by rfl) (by rfl) (by omega) ?_ | refine x_sub (by rfl) (by rfl) (by rfl) (by omega) ?_ | refine x_not (by rfl) (by rfl) ?_)
          refine w_load (by rfl) (by rfl) (load_agg (xs := o.wt.cells) AggT.h h410 (by rfl) (by rfl)) ?_
          refine w_call (by rfl) (by rfl) (by rfl) (due_add hP10.dv o.wt oR (by omega) (hr112.le (by omega))) ?_
          rintro va w11 (⟨rfl, hex, hd11, u11⟩ | ⟨rfl, hno, z, G', hzs, -, hd11, u11, hG'⟩)
          · repeat (first | refine x_move (by rfl) ?_ | refine x_as (by rfl) (by rfl) ?_ | refine x_skip (by rfl) ?_ | refine x_fld (by rfl) (by rfl) FldO.h ?_ | refine x_nilck (by rfl) (by rfl) ?_ | refine x_len (by rfl) (by rfl) ElOf.some ?_ | refine x_ext (by rfl) (by rfl) (by rfl) ?_ | refine x_pickT (by rfl) (by rfl) (by rfl) ?_ | refine x_pickF (by rfl) (by rfl) (by rfl) ?_ | refine x_add (by rfl) (by rfl) (by rfl) (by omega) ?_ | refine x_sub (by rfl) (by rfl) (by rfl) (by omega) ?_ | refine x_not (by rfl) (by rfl) ?_)
            refine x_nilw ?_
            exact ⟨rfl, false, G1, S, N, at_ ⟨rfl, rfl, rfl, rfl, rfl, rfl, rfl, rfl, trivial⟩, u11.of _, hd11, fun b h => .inl h, by omega, by omega, (fun h => by cases h), fun _ => ⟨hex, rfl⟩⟩
          · repeat (first | refine x_move (by rfl) ?_ | refine x_as (by rfl) (by rfl) ?_ | refine x_skip (by rfl) ?_ | refine x_fld (by rfl) (by rfl) FldO.h ?_ | refine x_nilck (by rfl) (by rfl) ?_ | refine x_len (by rfl) (by rfl) ElOf.some ?_ | refine x_ext (by rfl) (by rfl) (by rfl) ?_ | refine x_pickT (by rfl) (by rfl) (by rfl) ?_ | refine x_pickF (by rfl) (by rfl) (by rfl) ?_ | refine x_add (by rfl) (by rfl) (by rfl) (by omega) ?_ | refine x_sub (by rfl) (by rfl) (by rfl) (by omega) ?_ | refine x_not (by rfl) (by rfl) ?_)
            refine x_nilw ?_
            refine ⟨rfl, true, G', put wlt S z, N + 1, at_ ⟨rfl, rfl, rfl, rfl, rfl, rfl, rfl, rfl, trivial⟩, u11, hd11, hG', by omega, ?_, fun _ => ⟨hno, same_put rfl hzs⟩, fun h => by cases h⟩
            have := (perm_putW (lt := wlt) (x := z) S).length_eq
            simp only [List.length_append, List.length_singleton] at this
            omega
        rintro σ w11 ⟨q, G1', S', N', ⟨ρ, rfl⟩, u11, hd11, k1, hN', hS', hqT, hqF⟩
        refine n_then ?_
        have dm11 := hP10.dm.get u11 fun b _ h2 h1 => hP10.ap b h1 h2
        have hs11 := u11.size
        have h811 := h10.get u11 hn8.1
        have h411 := h410.get u11 hn6.1
        have yR11 := yR.get u11 fun b hb => (yG b hb).1
        have oR11 := oR.get u11 fun b hb => (oG b hb).1
        have hTS := same_key hP10.same (k := o.wt.m.key)
        have hky : y.m.key = o.wt.m.key := says_key hys
        (repeat (first | refine swp_seq ?_ | refine swp_block ?_)); refine swp_region (by kernel_rfl) ?_
        repeat (first | refine x_move (by rfl) ?_ | refine x_as (by rfl) (by rfl) ?_ | refine x_skip (by rfl) ?_ | refine x_fld (by rfl) (by rfl) FldO.h ?_ | refine x_nilck (by rfl) (by rfl) ?_ | refine x_len (by rfl) (by rfl) ElOf.some ?_ | refine x_ext (by rfl) (by rfl) (by rfl) ?_ | refine x_pickT (by rfl) (by rfl) (by rfl) ?_ | refine x_pickF (by rfl) (by rfl) (by rfl) ?_ | refine x_add (by rfl) (by rfl) (by rfl) (by omega) ?_ | refine x_sub (by rfl) (by rfl) (by rfl) (by omega) ?_ | refine x_not (by rfl) (by rfl) ?_)
        refine w_load (by rfl) (by rfl) (load_agg (xs := y.cells) AggT.h h811 (by rfl) (by rfl)) ?_
        refine w_call (by rfl) (by rfl) (by rfl) (model_add dm11 y yR11 (hr104.le (by omega))) ?_
        rintro vb w12 hB
        have hB' : ∃ G2' T', vb = .bool q ∧ Upd G2 w11 w12 ∧ Dm w12 bm G2' T' ∧ (∀ b, G2' b → G2 b ∨ w11.heap.size ≤ b) ∧ T'.map Wt.says = S'.map Wt.says := by
          rcases hB with ⟨rfl, hex, hd, u⟩ | ⟨rfl, hno, z, G', hzs, -, hd, u, hG'⟩
          · rw [hky] at hex
            have hq : q = false := by
              cases q with
              | false => rfl
              | true => exact absurd (hTS.1 hex) (hqT rfl).1
            exact ⟨G2, T, by rw [hq], u.of _, hd, fun b h => .inl h, by rw [(hqF hq).2]; exact hP10.same⟩
          · rw [hky] at hno
            have hq : q = true := by
              cases q with
              | true => rfl
              | false => exact absurd (hTS.2 (hqF rfl).1) hno
            exact ⟨G', put wlt T z, by rw [hq], u, hd, hG', by rw [(hqT hq).2]; exact same_put hP10.same (hzs.trans hys)⟩
        clear hB
        obtain ⟨G2', T', rfl, u12, hd12, k2, hs12⟩ := hB'
        have hP12 := hP10.both u11 hd11 k1 u12 hd12 k2 hs12
        have h812 := h811.get u12 hn8.2
        have h412 := h411.get u12 hn6.2
        have yR12 := yR11.get u12 fun b hb => (yG b hb).2
        have oR12 := oR11.get u12 fun b hb => (oG b hb).2
        repeat (first | refine x_move (by rfl) ?_ | refine x_as (by rfl) (by rfl) ?_ | refine x_skip (by rfl) ?_ | refine x_fld (by rfl) (by rfl) FldO.h ?_ | refine x_nilck (by rfl) (by rfl) ?_ | refine x_len (by rfl) (by rfl) ElOf.some ?_ | refine x_ext (by rfl) (by rfl) (by rfl) ?_ | refine x_pickT (by rfl) (by rfl) (by rfl) ?_ | refine x_pickF (by rfl) (by rfl) (by rfl) ?_ | refine x_add (by rfl) (by rfl) (by rfl) (by omega) ?_ | refine x_sub (by rfl) (by rfl) (by rfl) (by omega) ?_ | refine x_not (by rfl) (by rfl) ?_)
        refine x_nilw ?_
        (repeat (first | refine swp_seq ?_ | refine swp_block ?_)); refine swp_region (by kernel_rfl) ?_
        repeat (first | refine x_move (by rfl) ?_ | refine x_as (by rfl) (by rfl) ?_ | refine x_skip (by rfl) ?_ | refine x_fld (by rfl) (by rfl) FldO.h ?_ | refine x_nilck (by rfl) (by rfl) ?_ | refine x_len (by rfl) (by rfl) ElOf.some ?_ | refine x_ext (by rfl) (by rfl) (by rfl) ?_ | refine x_pickT (by rfl) (by rfl) (by rfl) ?_ | refine x_pickF (by rfl) (by rfl) (by rfl) ?_ | refine x_add (by rfl) (by rfl) (by rfl) (by omega) ?_ | refine x_sub (by rfl) (by rfl) (by rfl) (by omega) ?_ | refine x_not (by rfl) (by rfl) ?_)
        refine x_eqlB Try.underlying4 (by rfl) (by rfl) (by rfl) ?_
        rw [show (q == q) = true by cases q <;> rfl]
        repeat (first | refine x_move (by rfl) ?_ | refine x_as (by rfl) (by rfl) ?_ | refine x_skip (by rfl) ?_ | refine x_fld (by rfl) (by rfl) FldO.h ?_ | refine x_nilck (by rfl) (by rfl) ?_ | refine x_len (by rfl) (by rfl) ElOf.some ?_ | refine x_ext (by rfl) (by rfl) (by rfl) ?_ | refine x_pickT (by rfl) (by rfl) (by rfl) ?_ | refine x_pickF (by rfl) (by rfl) (by rfl) ?_ | refine x_add (by rfl) (by rfl) (by rfl) (by omega) ?_ | refine x_sub (by rfl) (by rfl) (by rfl) (by omega) ?_ | refine x_not (by rfl) (by rfl) ?_)
        refine w_load (by rfl) (by rfl) (load_agg (xs := o.wt.cells) AggT.h h412 (by rfl) (by rfl)) ?_
        refine w_load (by rfl) (by rfl) (load_agg (xs := y.cells) AggT.h h812 (by rfl) (by rfl)) ?_
        refine w_call (by rfl) (by rfl) (by rfl) (same_waiting o.wt y w12 oR12 yR12 hys.symm) ?_
        rintro _ w13 ⟨rfl, u13⟩
        repeat (first | refine x_move (by rfl) ?_ | refine x_as (by rfl) (by rfl) ?_ | refine x_skip (by rfl) ?_ | refine x_fld (by rfl) (by rfl) FldO.h ?_ | refine x_nilck (by rfl) (by rfl) ?_ | refine x_len (by rfl) (by rfl) ElOf.some ?_ | refine x_ext (by rfl) (by rfl) (by rfl) ?_ | refine x_pickT (by rfl) (by rfl) (by rfl) ?_ | refine x_pickF (by rfl) (by rfl) (by rfl) ?_ | refine x_add (by rfl) (by rfl) (by rfl) (by omega) ?_ | refine x_sub (by rfl) (by rfl) (by rfl) (by omega) ?_ | refine x_not (by rfl) (by rfl) ?_)
        refine x_nilw ?_
        (repeat (first | with_reducible refine n_then ?_ | with_reducible refine n_block ?_ | with_reducible refine n_jump ?_))
        exact ⟨rfl, _, _, S', T', N', at_ ⟨rfl, rfl, rfl, rfl, rfl, trivial⟩, hP12.at u13, hS', hN'⟩
      by_cases hk2 : o.kind = 2
      · (repeat (first | refine swp_seq ?_ | refine swp_block ?_)); refine swp_region (by kernel_rfl) ?_
        refine x_eqlF (by rfl) (by rfl) (by rfl) hk1 ?_
        repeat (first | refine x_move (by rfl) ?_ | refine x_as (by rfl) (by rfl) ?_ | refine x_skip (by rfl) ?_ | refine x_fld (by rfl) (by rfl) FldO.h ?_ | refine x_nilck (by rfl) (by rfl) ?_ | refine x_len (by rfl) (by rfl) ElOf.some ?_ | refine x_ext (by rfl) (by rfl) (by rfl) ?_ | refine x_pickT (by rfl) (by rfl) (by rfl) ?_ | refine x_pickF (by rfl) (by rfl) (by rfl) ?_ | refine x_add (by rfl) (by rfl) (by rfl) (by omega) ?_ | refine x_sub (by rfl) (by rfl) (by rfl) (by omega) ?_ | refine x_not (by rfl) (by rfl) ?_)
        refine x_nilw ?_
        (repeat (first | refine swp_seq ?_ | refine swp_block ?_))
        refine swp_false (by rfl) ?_
        (repeat (first | refine swp_seq ?_ | refine swp_block ?_)); refine swp_region (by kernel_rfl) ?_
        refine x_eqlT (by rfl) (by rfl) (by rfl) hk2 ?_
        repeat (first | refine x_move (by rfl) ?_ | refine x_as (by rfl) (by rfl) ?_ | refine x_skip (by rfl) ?_ | refine x_fld (by rfl) (by rfl) FldO.h ?_ | refine x_nilck (by rfl) (by rfl) ?_ | refine x_len (by rfl) (by rfl) ElOf.some ?_ | refine x_ext (by rfl) (by rfl) (by rfl) ?_ | refine x_pickT (by rfl) (by rfl) (by rfl) ?_ | refine x_pickF (by rfl) (by rfl) (by rfl) ?_ | refine x_add (by rfl) (by rfl) (by rfl) (by omega) ?_ | refine x_sub (by rfl) (by rfl) (by rfl) (by omega) ?_ | refine x_not (by rfl) (by rfl) ?_)
        refine x_nilw ?_
        (repeat (first | refine swp_seq ?_ | refine swp_block ?_))
        refine swp_true (by rfl) ?_
        (repeat (first | refine swp_seq ?_ | refine swp_block ?_)); refine swp_region (by kernel_rfl) ?_
        repeat (first | refine x_move (by rfl) ?_ | refine x_as (by rfl) (by rfl) ?_ | refine x_skip (by rfl) ?_ | refine x_fld (by rfl) (by rfl) FldO.h ?_ | refine x_nilck (by rfl) (by rfl) ?_ | refine x_len (by rfl) (by rfl) ElOf.some ?_ | refine x_ext (by rfl) (by rfl) (by rfl) ?_ | refine x_pickT (by rfl) (by rfl) (by rfl) ?_ | refine x_pickF (by rfl) (by rfl) (by rfl) ?_ | refine x_add (by rfl) (by rfl) (by rfl) (by omega) ?_ | refine x_sub (by rfl) (by rfl) (by rfl) (by omega) ?_ | refine x_not (by rfl) (by rfl) ?_)
        refine w_load (by rfl) (by rfl) (load_one (v := .int .i64 o.mark) OneT.h h4 (by rfl)) ?_
        refine w_call (by rfl) (by rfl) (by rfl) (due_take o.mark hP4.dv (hr112.le (by omega)) (by omega)) ?_
        rintro v1 w5 ⟨out1, hL1, hs1, hd5, u5, -⟩
        repeat (first | refine x_move (by rfl) ?_ | refine x_as (by rfl) (by rfl) ?_ | refine x_skip (by rfl) ?_ | refine x_fld (by rfl) (by rfl) FldO.h ?_ | refine x_nilck (by rfl) (by rfl) ?_ | refine x_len (by rfl) (by rfl) ElOf.some ?_ | refine x_ext (by rfl) (by rfl) (by rfl) ?_ | refine x_pickT (by rfl) (by rfl) (by rfl) ?_ | refine x_pickF (by rfl) (by rfl) (by rfl) ?_ | refine x_add (by rfl) (by rfl) (by rfl) (by omega) ?_ | refine x_sub (by rfl) (by rfl) (by rfl) (by omega) ?_ | refine x_not (by rfl) (by rfl) ?_)
        refine x_nilw ?_
        have dm5 := hP4.dm.get u5 fun b _ h2 h1 => hP4.ap b h1 h2
        have h45 := h4.get u5 hn6.1
        refine swp_fit [(0, .slice (some ⟨b1, o1, none⟩) ls.length c0), (3, .pointer (some ⟨bd, 0, none⟩)), (4, .pointer (some ⟨bm, 0, none⟩)), (5, .int .i64 (i : Nat)), (6, .pointer (some ⟨b6, 0, none⟩)), (7, .bool true), (11, v1)] ⟨rfl, rfl, rfl, rfl, rfl, rfl, rfl, trivial⟩ fun ρ => ?_
        (repeat (first | refine swp_seq ?_ | refine swp_block ?_)); refine swp_region (by kernel_rfl) ?_
        repeat (first | refine x_move (by rfl) ?_ | refine x_as (by rfl) (by rfl) ?_ | refine x_skip (by rfl) ?_ | refine x_fld (by rfl) (by rfl) FldO.h ?_ | refine x_nilck (by rfl) (by rfl) ?_ | refine x_len (by rfl) (by rfl) ElOf.some ?_ | refine x_ext (by rfl) (by rfl) (by rfl) ?_ | refine x_pickT (by rfl) (by rfl) (by rfl) ?_ | refine x_pickF (by rfl) (by rfl) (by rfl) ?_ | refine x_add (by rfl) (by rfl) (by rfl) (by omega) ?_ | refine x_sub (by rfl) (by rfl) (by rfl) (by omega) ?_ | refine x_not (by rfl) (by rfl) ?_)
        refine w_load (by rfl) (by rfl) (load_one (v := .int .i64 o.mark) OneT.h h45 (by rfl)) ?_
        refine w_call (by rfl) (by rfl) (by rfl) (model_take o.mark dm5 (hr104.le (by omega))) ?_
        rintro v2 w6 ⟨out2, T', G2', hL2, hs2, hm6, hT', u6, k2, -, -⟩
        repeat (first | refine x_move (by rfl) ?_ | refine x_as (by rfl) (by rfl) ?_ | refine x_skip (by rfl) ?_ | refine x_fld (by rfl) (by rfl) FldO.h ?_ | refine x_nilck (by rfl) (by rfl) ?_ | refine x_len (by rfl) (by rfl) ElOf.some ?_ | refine x_ext (by rfl) (by rfl) (by rfl) ?_ | refine x_pickT (by rfl) (by rfl) (by rfl) ?_ | refine x_pickF (by rfl) (by rfl) (by rfl) ?_ | refine x_add (by rfl) (by rfl) (by rfl) (by omega) ?_ | refine x_sub (by rfl) (by rfl) (by rfl) (by omega) ?_ | refine x_not (by rfl) (by rfl) ?_)
        refine x_nilw ?_
        have hP6 := hP4.both u5 hd5 (fun b h => .inl h) u6 hm6 k2 (by rw [hT', drop_map, drop_map, hP4.same])
        have hL16 : Lst tWt 40 w4 w6 v1 out1 := hL1.get u6 fun b hb _ h2 => by have := (hP4.l2 b h2).2; omega
        have hsame : out1.map Wt.says = out2.map Wt.says := by rw [hs1, hs2, take_map, take_map, hP4.same]
        have hol : out1.length ≤ S.length := by
          have := congrArg List.length hs1
          simp only [List.length_map] at this
          have h2 := (List.takeWhile_sublist (by_ o.mark) (l := S)).length_le
          omega
        have hdl : (S.dropWhile (by_ o.mark)).length ≤ S.length := (List.dropWhile_sublist _).length_le
        refine swp_fit [(0, .slice (some ⟨b1, o1, none⟩) ls.length c0), (3, .pointer (some ⟨bd, 0, none⟩)), (4, .pointer (some ⟨bm, 0, none⟩)), (5, .int .i64 (i : Nat)), (6, .pointer (some ⟨b6, 0, none⟩)), (7, .bool true), (11, v1), (12, v2)] ⟨rfl, rfl, rfl, rfl, rfl, rfl, rfl, rfl, trivial⟩ fun ρ => ?_
        (repeat (first | refine swp_seq ?_ | refine swp_block ?_)); refine swp_region (by kernel_rfl) ?_
        repeat (first | refine x_move (by rfl) ?_ | refine x_as (by rfl) (by rfl) ?_ | refine x_skip (by rfl) ?_ | refine x_fld (by rfl) (by rfl) FldO.h ?_ | refine x_nilck (by rfl) (by rfl) ?_ | refine x_len (by rfl) (by rfl) ElOf.some ?_ | refine x_ext (by rfl) (by rfl) (by rfl) ?_ | refine x_pickT (by rfl) (by rfl) (by rfl) ?_ | refine x_pickF (by rfl) (by rfl) (by rfl) ?_ | refine x_add (by rfl) (by rfl) (by rfl) (by omega) ?_ | refine x_sub (by rfl) (by rfl) (by rfl) (by omega) ?_ | refine x_not (by rfl) (by rfl) ?_)
        refine w_call (by rfl) (by rfl) (by rfl) (same_all hL16.rl hL2.rl hsame (by omega)) ?_
        rintro _ w7 ⟨rfl, u7⟩
        repeat (first | refine x_move (by rfl) ?_ | refine x_as (by rfl) (by rfl) ?_ | refine x_skip (by rfl) ?_ | refine x_fld (by rfl) (by rfl) FldO.h ?_ | refine x_nilck (by rfl) (by rfl) ?_ | refine x_len (by rfl) (by rfl) ElOf.some ?_ | refine x_ext (by rfl) (by rfl) (by rfl) ?_ | refine x_pickT (by rfl) (by rfl) (by rfl) ?_ | refine x_pickF (by rfl) (by rfl) (by rfl) ?_ | refine x_add (by rfl) (by rfl) (by rfl) (by omega) ?_ | refine x_sub (by rfl) (by rfl) (by rfl) (by omega) ?_ | refine x_not (by rfl) (by rfl) ?_)
        refine x_nilw ?_
        (repeat (first | with_reducible refine n_then ?_ | with_reducible refine n_block ?_ | with_reducible refine n_jump ?_))
        exact ⟨rfl, _, _, _, T', N, at_ ⟨rfl, rfl, rfl, rfl, rfl, trivial⟩, hP6.at u7, by omega, by omega⟩
      by_cases hk3 : o.kind = 3
      · (repeat (first | refine swp_seq ?_ | refine swp_block ?_)); refine swp_region (by kernel_rfl) ?_
        refine x_eqlF (by rfl) (by rfl) (by rfl) hk1 ?_
        repeat (first | refine x_move (by rfl) ?_ | refine x_as (by rfl) (by rfl) ?_ | refine x_skip (by rfl) ?_ | refine x_fld (by rfl) (by rfl) FldO.h ?_ | refine x_nilck (by rfl) (by rfl) ?_ | refine x_len (by rfl) (by rfl) ElOf.some ?_ | refine x_ext (by rfl) (by rfl) (by rfl) ?_ | refine x_pickT (by rfl) (by rfl) (by rfl) ?_ | refine x_pickF (by rfl) (by rfl) (by rfl) ?_ | refine x_add (by rfl) (by rfl) (by rfl) (by omega) ?_ | refine x_sub (by rfl) (by rfl) (by rfl) (by omega) ?_ | refine x_not (by rfl) (by rfl) ?_)
        refine x_nilw ?_
        (repeat (first | refine swp_seq ?_ | refine swp_block ?_))
        refine swp_false (by rfl) ?_
        (repeat (first | refine swp_seq ?_ | refine swp_block ?_)); refine swp_region (by kernel_rfl) ?_
        refine x_eqlF (by rfl) (by rfl) (by rfl) hk2 ?_
        repeat (first | refine x_move (by rfl) ?_ | refine x_as (by rfl) (by rfl) ?_ | refine x_skip (by rfl) ?_ | refine x_fld (by rfl) (by rfl) FldO.h ?_ | refine x_nilck (by rfl) (by rfl) ?_ | refine x_len (by rfl) (by rfl) ElOf.some ?_ | refine x_ext (by rfl) (by rfl) (by rfl) ?_ | refine x_pickT (by rfl) (by rfl) (by rfl) ?_ | refine x_pickF (by rfl) (by rfl) (by rfl) ?_ | refine x_add (by rfl) (by rfl) (by rfl) (by omega) ?_ | refine x_sub (by rfl) (by rfl) (by rfl) (by omega) ?_ | refine x_not (by rfl) (by rfl) ?_)
        refine x_nilw ?_
        (repeat (first | refine swp_seq ?_ | refine swp_block ?_))
        refine swp_false (by rfl) ?_
        (repeat (first | refine swp_seq ?_ | refine swp_block ?_)); refine swp_region (by kernel_rfl) ?_
        refine x_eqlT (by rfl) (by rfl) (by rfl) hk3 ?_
        repeat (first | refine x_move (by rfl) ?_ | refine x_as (by rfl) (by rfl) ?_ | refine x_skip (by rfl) ?_ | refine x_fld (by rfl) (by rfl) FldO.h ?_ | refine x_nilck (by rfl) (by rfl) ?_ | refine x_len (by rfl) (by rfl) ElOf.some ?_ | refine x_ext (by rfl) (by rfl) (by rfl) ?_ | refine x_pickT (by rfl) (by rfl) (by rfl) ?_ | refine x_pickF (by rfl) (by rfl) (by rfl) ?_ | refine x_add (by rfl) (by rfl) (by rfl) (by omega) ?_ | refine x_sub (by rfl) (by rfl) (by rfl) (by omega) ?_ | refine x_not (by rfl) (by rfl) ?_)
        refine x_nilw ?_
        (repeat (first | refine swp_seq ?_ | refine swp_block ?_))
        refine swp_true (by rfl) ?_
        (repeat (first | refine swp_seq ?_ | refine swp_block ?_)); refine swp_region (by kernel_rfl) ?_
        repeat (first | refine x_move (by rfl) ?_ | refine x_as (by rfl) (by rfl) ?_ | refine x_skip (by rfl) ?_ | refine x_fld (by rfl) (by rfl) FldO.h ?_ | refine x_nilck (by rfl) (by rfl) ?_ | refine x_len (by rfl) (by rfl) ElOf.some ?_ | refine x_ext (by rfl) (by rfl) (by rfl) ?_ | refine x_pickT (by rfl) (by rfl) (by rfl) ?_ | refine x_pickF (by rfl) (by rfl) (by rfl) ?_ | refine x_add (by rfl) (by rfl) (by rfl) (by omega) ?_ | refine x_sub (by rfl) (by rfl) (by rfl) (by omega) ?_ | refine x_not (by rfl) (by rfl) ?_)
        refine w_call (by rfl) (by rfl) (by rfl) (due_list hP4.dv (hr112.le (by omega)) (by omega)) ?_
        rintro v1 w5 ⟨out1, hL1, hs1, u5⟩
        repeat (first | refine x_move (by rfl) ?_ | refine x_as (by rfl) (by rfl) ?_ | refine x_skip (by rfl) ?_ | refine x_fld (by rfl) (by rfl) FldO.h ?_ | refine x_nilck (by rfl) (by rfl) ?_ | refine x_len (by rfl) (by rfl) ElOf.some ?_ | refine x_ext (by rfl) (by rfl) (by rfl) ?_ | refine x_pickT (by rfl) (by rfl) (by rfl) ?_ | refine x_pickF (by rfl) (by rfl) (by rfl) ?_ | refine x_add (by rfl) (by rfl) (by rfl) (by omega) ?_ | refine x_sub (by rfl) (by rfl) (by rfl) (by omega) ?_ | refine x_not (by rfl) (by rfl) ?_)
        refine x_nilw ?_
        have hP5 := hP4.at u5
        refine swp_fit [(0, .slice (some ⟨b1, o1, none⟩) ls.length c0), (3, .pointer (some ⟨bd, 0, none⟩)), (4, .pointer (some ⟨bm, 0, none⟩)), (5, .int .i64 (i : Nat)), (6, .pointer (some ⟨b6, 0, none⟩)), (7, .bool true), (13, v1)] ⟨rfl, rfl, rfl, rfl, rfl, rfl, rfl, trivial⟩ fun ρ => ?_
        (repeat (first | refine swp_seq ?_ | refine swp_block ?_)); refine swp_region (by kernel_rfl) ?_
        repeat (first | refine x_move (by rfl) ?_ | refine x_as (by rfl) (by rfl) ?_ | refine x_skip (by rfl) ?_ | refine x_fld (by rfl) (by rfl) FldO.h ?_ | refine x_nilck (by rfl) (by rfl) ?_ | refine x_len (by rfl) (by rfl) ElOf.some ?_ | refine x_ext (by rfl) (by rfl) (by rfl) ?_ | refine x_pickT (by rfl) (by rfl) (by rfl) ?_ | refine x_pickF (by rfl) (by rfl) (by rfl) ?_ | refine x_add (by rfl) (by rfl) (by rfl) (by omega) ?_ | refine x_sub (by rfl) (by rfl) (by rfl) (by omega) ?_ | refine x_not (by rfl) (by rfl) ?_)
        refine w_call (by rfl) (by rfl) (by rfl) (model_list hP5.dm (hr104.le (by omega))) ?_
        rintro v2 w6 ⟨out2, hL2, hs2, u6⟩
        repeat (first | refine x_move (by rfl) ?_ | refine x_as (by rfl) (by rfl) ?_ | refine x_skip (by rfl) ?_ | refine x_fld (by rfl) (by rfl) FldO.h ?_ | refine x_nilck (by rfl) (by rfl) ?_ | refine x_len (by rfl) (by rfl) ElOf.some ?_ | refine x_ext (by rfl) (by rfl) (by rfl) ?_ | refine x_pickT (by rfl) (by rfl) (by rfl) ?_ | refine x_pickF (by rfl) (by rfl) (by rfl) ?_ | refine x_add (by rfl) (by rfl) (by rfl) (by omega) ?_ | refine x_sub (by rfl) (by rfl) (by rfl) (by omega) ?_ | refine x_not (by rfl) (by rfl) ?_)
        refine x_nilw ?_
        have hsame : out1.map Wt.says = out2.map Wt.says := by rw [hs1, hs2, hP4.same]
        have hol : out1.length = S.length := by simpa using congrArg List.length hs1
        refine swp_fit [(0, .slice (some ⟨b1, o1, none⟩) ls.length c0), (3, .pointer (some ⟨bd, 0, none⟩)), (4, .pointer (some ⟨bm, 0, none⟩)), (5, .int .i64 (i : Nat)), (6, .pointer (some ⟨b6, 0, none⟩)), (7, .bool true), (13, v1), (14, v2)] ⟨rfl, rfl, rfl, rfl, rfl, rfl, rfl, rfl, trivial⟩ fun ρ => ?_
        (repeat (first | refine swp_seq ?_ | refine swp_block ?_)); refine swp_region (by kernel_rfl) ?_
        repeat (first | refine x_move (by rfl) ?_ | refine x_as (by rfl) (by rfl) ?_ | refine x_skip (by rfl) ?_ | refine x_fld (by rfl) (by rfl) FldO.h ?_ | refine x_nilck (by rfl) (by rfl) ?_ | refine x_len (by rfl) (by rfl) ElOf.some ?_ | refine x_ext (by rfl) (by rfl) (by rfl) ?_ | refine x_pickT (by rfl) (by rfl) (by rfl) ?_ | refine x_pickF (by rfl) (by rfl) (by rfl) ?_ | refine x_add (by rfl) (by rfl) (by rfl) (by omega) ?_ | refine x_sub (by rfl) (by rfl) (by rfl) (by omega) ?_ | refine x_not (by rfl) (by rfl) ?_)
        refine w_call (by rfl) (by rfl) (by rfl) (same_all (hL1.at u6).rl hL2.rl hsame (by omega)) ?_
        rintro _ w7 ⟨rfl, u7⟩
        repeat (first | refine x_move (by rfl) ?_ | refine x_as (by rfl) (by rfl) ?_ | refine x_skip (by rfl) ?_ | refine x_fld (by rfl) (by rfl) FldO.h ?_ | refine x_nilck (by rfl) (by rfl) ?_ | refine x_len (by rfl) (by rfl) ElOf.some ?_ | refine x_ext (by rfl) (by rfl) (by rfl) ?_ | refine x_pickT (by rfl) (by rfl) (by rfl) ?_ | refine x_pickF (by rfl) (by rfl) (by rfl) ?_ | refine x_add (by rfl) (by rfl) (by rfl) (by omega) ?_ | refine x_sub (by rfl) (by rfl) (by rfl) (by omega) ?_ | refine x_not (by rfl) (by rfl) ?_)
        refine x_nilw ?_
        (repeat (first | with_reducible refine n_then ?_ | with_reducible refine n_block ?_ | with_reducible refine n_jump ?_))
        exact ⟨rfl, _, _, _, T, N, at_ ⟨rfl, rfl, rfl, rfl, rfl, trivial⟩, (hP5.at u6).at u7, by omega, by omega⟩
      by_cases hk4 : o.kind = 4
      · (repeat (first | refine swp_seq ?_ | refine swp_block ?_)); refine swp_region (by kernel_rfl) ?_
        refine x_eqlF (by rfl) (by rfl) (by rfl) hk1 ?_
        repeat (first | refine x_move (by rfl) ?_ | refine x_as (by rfl) (by rfl) ?_ | refine x_skip (by rfl) ?_ | refine x_fld (by rfl) (by rfl) FldO.h ?_ | refine x_nilck (by rfl) (by rfl) ?_ | refine x_len (by rfl) (by rfl) ElOf.some ?_ | refine x_ext (by rfl) (by rfl) (by rfl) ?_ | refine x_pickT (by rfl) (by rfl) (by rfl) ?_ | refine x_pickF (by rfl) (by rfl) (by rfl) ?_ | refine x_add (by rfl) (by rfl) (by rfl) (by omega) ?_ | refine x_sub (by rfl) (by rfl) (by rfl) (by omega) ?_ | refine x_not (by rfl) (by rfl) ?_)
        refine x_nilw ?_
        (repeat (first | refine swp_seq ?_ | refine swp_block ?_))
        refine swp_false (by rfl) ?_
        (repeat (first | refine swp_seq ?_ | refine swp_block ?_)); refine swp_region (by kernel_rfl) ?_
        refine x_eqlF (by rfl) (by rfl) (by rfl) hk2 ?_
        repeat (first | refine x_move (by rfl) ?_ | refine x_as (by rfl) (by rfl) ?_ | refine x_skip (by rfl) ?_ | refine x_fld (by rfl) (by rfl) FldO.h ?_ | refine x_nilck (by rfl) (by rfl) ?_ | refine x_len (by rfl) (by rfl) ElOf.some ?_ | refine x_ext (by rfl) (by rfl) (by rfl) ?_ | refine x_pickT (by rfl) (by rfl) (by rfl) ?_ | refine x_pickF (by rfl) (by rfl) (by rfl) ?_ | refine x_add (by rfl) (by rfl) (by rfl) (by omega) ?_ | refine x_sub (by rfl) (by rfl) (by rfl) (by omega) ?_ | refine x_not (by rfl) (by rfl) ?_)
        refine x_nilw ?_
        (repeat (first | refine swp_seq ?_ | refine swp_block ?_))
        refine swp_false (by rfl) ?_
        (repeat (first | refine swp_seq ?_ | refine swp_block ?_)); refine swp_region (by kernel_rfl) ?_
        refine x_eqlF (by rfl) (by rfl) (by rfl) hk3 ?_
        repeat (first | refine x_move (by rfl) ?_ | refine x_as (by rfl) (by rfl) ?_ | refine x_skip (by rfl) ?_ | refine x_fld (by rfl) (by rfl) FldO.h ?_ | refine x_nilck (by rfl) (by rfl) ?_ | refine x_len (by rfl) (by rfl) ElOf.some ?_ | refine x_ext (by rfl) (by rfl) (by rfl) ?_ | refine x_pickT (by rfl) (by rfl) (by rfl) ?_ | refine x_pickF (by rfl) (by rfl) (by rfl) ?_ | refine x_add (by rfl) (by rfl) (by rfl) (by omega) ?_ | refine x_sub (by rfl) (by rfl) (by rfl) (by omega) ?_ | refine x_not (by rfl) (by rfl) ?_)
        refine x_nilw ?_
        (repeat (first | refine swp_seq ?_ | refine swp_block ?_))
        refine swp_false (by rfl) ?_
        (repeat (first | refine swp_seq ?_ | refine swp_block ?_)); refine swp_region (by kernel_rfl) ?_
        refine x_eqlT (by rfl) (by rfl) (by rfl) hk4 ?_
        repeat (first | refine x_move (by rfl) ?_ | refine x_as (by rfl) (by rfl) ?_ | refine x_skip (by rfl) ?_ | refine x_fld (by rfl) (by rfl) FldO.h ?_ | refine x_nilck (by rfl) (by rfl) ?_ | refine x_len (by rfl) (by rfl) ElOf.some ?_ | refine x_ext (by rfl) (by rfl) (by rfl) ?_ | refine x_pickT (by rfl) (by rfl) (by rfl) ?_ | refine x_pickF (by rfl) (by rfl) (by rfl) ?_ | refine x_add (by rfl) (by rfl) (by rfl) (by omega) ?_ | refine x_sub (by rfl) (by rfl) (by rfl) (by omega) ?_ | refine x_not (by rfl) (by rfl) ?_)
        refine x_nilw ?_
        (repeat (first | refine swp_seq ?_ | refine swp_block ?_))
        refine swp_true (by rfl) ?_
        (repeat (first | refine swp_seq ?_ | refine swp_block ?_)); refine swp_region (by kernel_rfl) ?_
        repeat (first | refine x_move (by rfl) ?_ | refine x_as (by rfl) (by rfl) ?_ | refine x_skip (by rfl) ?_ | refine x_fld (by rfl) (by rfl) FldO.h ?_ | refine x_nilck (by rfl) (by rfl) ?_ | refine x_len (by rfl) (by rfl) ElOf.some ?_ | refine x_ext (by rfl) (by rfl) (by rfl) ?_ | refine x_pickT (by rfl) (by rfl) (by rfl) ?_ | refine x_pickF (by rfl) (by rfl) (by rfl) ?_ | refine x_add (by rfl) (by rfl) (by rfl) (by omega) ?_ | refine x_sub (by rfl) (by rfl) (by rfl) (by omega) ?_ | refine x_not (by rfl) (by rfl) ?_)
        refine w_call (by rfl) (by rfl) (by rfl) (due_len hP4.dv) ?_
        rintro _ _ ⟨rfl, rfl⟩
        repeat (first | refine x_move (by rfl) ?_ | refine x_as (by rfl) (by rfl) ?_ | refine x_skip (by rfl) ?_ | refine x_fld (by rfl) (by rfl) FldO.h ?_ | refine x_nilck (by rfl) (by rfl) ?_ | refine x_len (by rfl) (by rfl) ElOf.some ?_ | refine x_ext (by rfl) (by rfl) (by rfl) ?_ | refine x_pickT (by rfl) (by rfl) (by rfl) ?_ | refine x_pickF (by rfl) (by rfl) (by rfl) ?_ | refine x_add (by rfl) (by rfl) (by rfl) (by omega) ?_ | refine x_sub (by rfl) (by rfl) (by rfl) (by omega) ?_ | refine x_not (by rfl) (by rfl) ?_)
        refine x_nilw ?_
        (repeat (first | refine swp_seq ?_ | refine swp_block ?_)); refine swp_region (by kernel_rfl) ?_
        repeat (first | refine x_move (by rfl) ?_ | refine x_as (by rfl) (by rfl) ?_ | refine x_skip (by rfl) ?_ | refine x_fld (by rfl) (by rfl) FldO.h ?_ | refine x_nilck (by rfl) (by rfl) ?_ | refine x_len (by rfl) (by rfl) ElOf.some ?_ | refine x_ext (by rfl) (by rfl) (by rfl) ?_ | refine x_pickT (by rfl) (by rfl) (by rfl) ?_ | refine x_pickF (by rfl) (by rfl) (by rfl) ?_ | refine x_add (by rfl) (by rfl) (by rfl) (by omega) ?_ | refine x_sub (by rfl) (by rfl) (by rfl) (by omega) ?_ | refine x_not (by rfl) (by rfl) ?_)
        refine w_call (by rfl) (by rfl) (by rfl) (model_len hP4.dm) ?_
        rintro _ _ ⟨rfl, rfl⟩
        repeat (first | refine x_move (by rfl) ?_ | refine x_as (by rfl) (by rfl) ?_ | refine x_skip (by rfl) ?_ | refine x_fld (by rfl) (by rfl) FldO.h ?_ | refine x_nilck (by rfl) (by rfl) ?_ | refine x_len (by rfl) (by rfl) ElOf.some ?_ | refine x_ext (by rfl) (by rfl) (by rfl) ?_ | refine x_pickT (by rfl) (by rfl) (by rfl) ?_ | refine x_pickF (by rfl) (by rfl) (by rfl) ?_ | refine x_add (by rfl) (by rfl) (by rfl) (by omega) ?_ | refine x_sub (by rfl) (by rfl) (by rfl) (by omega) ?_ | refine x_not (by rfl) (by rfl) ?_)
        refine x_nilw ?_
        (repeat (first | refine swp_seq ?_ | refine swp_block ?_)); refine swp_region (by kernel_rfl) ?_
        repeat (first | refine x_move (by rfl) ?_ | refine x_as (by rfl) (by rfl) ?_ | refine x_skip (by rfl) ?_ | refine x_fld (by rfl) (by rfl) FldO.h ?_ | refine x_nilck (by rfl) (by rfl) ?_ | refine x_len (by rfl) (by rfl) ElOf.some ?_ | refine x_ext (by rfl) (by rfl) (by rfl) ?_ | refine x_pickT (by rfl) (by rfl) (by rfl) ?_ | refine x_pickF (by rfl) (by rfl) (by rfl) ?_ | refine x_add (by rfl) (by rfl) (by rfl) (by omega) ?_ | refine x_sub (by rfl) (by rfl) (by rfl) (by omega) ?_ | refine x_not (by rfl) (by rfl) ?_)
        refine x_eqlT (by rfl) (by rfl) (by rfl) (by omega) ?_
        repeat (first | refine x_move (by rfl) ?_ | refine x_as (by rfl) (by rfl) ?_ | refine x_skip (by rfl) ?_ | refine x_fld (by rfl) (by rfl) FldO.h ?_ | refine x_nilck (by rfl) (by rfl) ?_ | refine x_len (by rfl) (by rfl) ElOf.some ?_ | refine x_ext (by rfl) (by rfl) (by rfl) ?_ | refine x_pickT (by rfl) (by rfl) (by rfl) ?_ | refine x_pickF (by rfl) (by rfl) (by rfl) ?_ | refine x_add (by rfl) (by rfl) (by rfl) (by omega) ?_ | refine x_sub (by rfl) (by rfl) (by rfl) (by omega) ?_ | refine x_not (by rfl) (by rfl) ?_)
        refine x_nilw ?_
        (repeat (first | with_reducible refine n_then ?_ | with_reducible refine n_block ?_ | with_reducible refine n_jump ?_))
        exact ⟨rfl, _, _, S, T, N, at_ ⟨rfl, rfl, rfl, rfl, rfl, trivial⟩, hP4, by omega, by omega⟩
      · (repeat (first | refine swp_seq ?_ | refine swp_block ?_)); refine swp_region (by kernel_rfl) ?_
        refine x_eqlF (by rfl) (by rfl) (by rfl) hk1 ?_
        repeat (first | refine x_move (by rfl) ?_ | refine x_as (by rfl) (by rfl) ?_ | refine x_skip (by rfl) ?_ | refine x_fld (by rfl) (by rfl) FldO.h ?_ | refine x_nilck (by rfl) (by rfl) ?_ | refine x_len (by rfl) (by rfl) ElOf.some ?_ | refine x_ext (by rfl) (by rfl) (by rfl) ?_ | refine x_pickT (by rfl) (by rfl) (by rfl) ?_ | refine x_pickF (by rfl) (by rfl) (by rfl) ?_ | refine x_add (by rfl) (by rfl) (by rfl) (by omega) ?_ | refine x_sub (by rfl) (by rfl) (by rfl) (by omega) ?_ | refine x_not (by rfl) (by rfl) ?_)
        refine x_nilw ?_
        (repeat (first | refine swp_seq ?_ | refine swp_block ?_))
        refine swp_false (by rfl) ?_
        (repeat (first | refine swp_seq ?_ | refine swp_block ?_)); refine swp_region (by kernel_rfl) ?_
        refine x_eqlF (by rfl) (by rfl) (by rfl) hk2 ?_
        repeat (first | refine x_move (by rfl) ?_ | refine x_as (by rfl) (by rfl) ?_ | refine x_skip (by rfl) ?_ | refine x_fld (by rfl) (by rfl) FldO.h ?_ | refine x_nilck (by rfl) (by rfl) ?_ | refine x_len (by rfl) (by rfl) ElOf.some ?_ | refine x_ext (by rfl) (by rfl) (by rfl) ?_ | refine x_pickT (by rfl) (by rfl) (by rfl) ?_ | refine x_pickF (by rfl) (by rfl) (by rfl) ?_ | refine x_add (by rfl) (by rfl) (by rfl) (by omega) ?_ | refine x_sub (by rfl) (by rfl) (by rfl) (by omega) ?_ | refine x_not (by rfl) (by rfl) ?_)
        refine x_nilw ?_
        (repeat (first | refine swp_seq ?_ | refine swp_block ?_))
        refine swp_false (by rfl) ?_
        (repeat (first | refine swp_seq ?_ | refine swp_block ?_)); refine swp_region (by kernel_rfl) ?_
        refine x_eqlF (by rfl) (by rfl) (by rfl) hk3 ?_
        repeat (first | refine x_move (by rfl) ?_ | refine x_as (by rfl) (by rfl) ?_ | refine x_skip (by rfl) ?_ | refine x_fld (by rfl) (by rfl) FldO.h ?_ | refine x_nilck (by rfl) (by rfl) ?_ | refine x_len (by rfl) (by rfl) ElOf.some ?_ | refine x_ext (by rfl) (by rfl) (by rfl) ?_ | refine x_pickT (by rfl) (by rfl) (by rfl) ?_ | refine x_pickF (by rfl) (by rfl) (by rfl) ?_ | refine x_add (by rfl) (by rfl) (by rfl) (by omega) ?_ | refine x_sub (by rfl) (by rfl) (by rfl) (by omega) ?_ | refine x_not (by rfl) (by rfl) ?_)
        refine x_nilw ?_
        (repeat (first | refine swp_seq ?_ | refine swp_block ?_))
        refine swp_false (by rfl) ?_
        (repeat (first | refine swp_seq ?_ | refine swp_block ?_)); refine swp_region (by kernel_rfl) ?_
        refine x_eqlF (by rfl) (by rfl) (by rfl) hk4 ?_
        repeat (first | refine x_move (by rfl) ?_ | refine x_as (by rfl) (by rfl) ?_ | refine x_skip (by rfl) ?_ | refine x_fld (by rfl) (by rfl) FldO.h ?_ | refine x_nilck (by rfl) (by rfl) ?_ | refine x_len (by rfl) (by rfl) ElOf.some ?_ | refine x_ext (by rfl) (by rfl) (by rfl) ?_ | refine x_pickT (by rfl) (by rfl) (by rfl) ?_ | refine x_pickF (by rfl) (by rfl) (by rfl) ?_ | refine x_add (by rfl) (by rfl) (by rfl) (by omega) ?_ | refine x_sub (by rfl) (by rfl) (by rfl) (by omega) ?_ | refine x_not (by rfl) (by rfl) ?_)
        refine x_nilw ?_
        (repeat (first | refine swp_seq ?_ | refine swp_block ?_))
        refine swp_false (by rfl) (swp_skip ?_)
        (repeat (first | with_reducible refine n_then ?_ | with_reducible refine n_block ?_ | with_reducible refine n_jump ?_))
        exact ⟨rfl, _, _, S, T, N, at_ ⟨rfl, rfl, rfl, rfl, rfl, trivial⟩, hP4, by omega, by omega⟩
    rintro σ w5 ⟨G1', G2', S', T', N', ⟨ρ, rfl⟩, hP5, hS', hN'⟩
    refine n_then ?_
    (repeat (first | refine swp_seq ?_ | refine swp_block ?_)); refine swp_region (by kernel_rfl) ?_
    repeat (first | refine x_move (by rfl) ?_ | refine x_as (by rfl) (by rfl) ?_ | refine x_skip (by rfl) ?_ | refine x_fld (by rfl) (by rfl) FldO.h ?_ | refine w_load (by rfl) (by rfl) (load_one OneT.h (by assumption) (by rfl)) ?_ | refine x_nilck (by rfl) (by rfl) ?_ | refine x_len (by rfl) (by rfl) ElOf.some ?_ | refine x_iface (by rfl) (by rfl) NIf.h ?_ | refine x_ext (by rfl) (by rfl) (by rfl) ?_ | refine x_pickT (by rfl) (by rfl) (by rfl) ?_ | refine x_pickF (by rfl) (by rfl) (by rfl) ?_ | refine x_add (by rfl) (by rfl) (by rfl) (by omega) ?_ | refine x_sub (by rfl) (by rfl) (by rfl) (by omega) ?_ | refine x_lss (by rfl) (by rfl) (by rfl) ?_ | refine x_geq (by rfl) (by rfl) (by rfl) ?_ | refine x_leq (by rfl) (by rfl) (by rfl) ?_ | refine x_gtr (by rfl) (by rfl) (by rfl) ?_ | refine x_eql (by rfl) (by rfl) (by rfl) ?_ | refine x_neq (by rfl) (by rfl) (by rfl) ?_ | refine x_not (by rfl) (by rfl) ?_)
    refine x_nilw ?_
    (repeat (first | refine swp_seq ?_ | refine swp_block ?_))
    refine swp_false (by rfl) (swp_skip ?_)
    (repeat (first | with_reducible refine n_then ?_ | with_reducible refine n_block ?_ | with_reducible refine n_jump ?_))
    (repeat (first | refine swp_seq ?_ | refine swp_block ?_)); refine swp_region (by kernel_rfl) ?_
    repeat (first | refine x_move (by rfl) ?_ | refine x_as (by rfl) (by rfl) ?_ | refine x_skip (by rfl) ?_ | refine x_fld (by rfl) (by rfl) FldO.h ?_ | refine w_load (by rfl) (by rfl) (load_one OneT.h (by assumption) (by rfl)) ?_ | refine x_nilck (by rfl) (by rfl) ?_ | refine x_len (by rfl) (by rfl) ElOf.some ?_ | refine x_iface (by rfl) (by rfl) NIf.h ?_ | refine x_ext (by rfl) (by rfl) (by rfl) ?_ | refine x_pickT (by rfl) (by rfl) (by rfl) ?_ | refine x_pickF (by rfl) (by rfl) (by rfl) ?_ | refine x_add (by rfl) (by rfl) (by rfl) (by omega) ?_ | refine x_sub (by rfl) (by rfl) (by rfl) (by omega) ?_ | refine x_lss (by rfl) (by rfl) (by rfl) ?_ | refine x_geq (by rfl) (by rfl) (by rfl) ?_ | refine x_leq (by rfl) (by rfl) (by rfl) ?_ | refine x_gtr (by rfl) (by rfl) (by rfl) ?_ | refine x_eql (by rfl) (by rfl) (by rfl) ?_ | refine x_neq (by rfl) (by rfl) (by rfl) ?_ | refine x_not (by rfl) (by rfl) ?_)
    refine x_nilw ?_
    exact ⟨i + 1, ⟨G1', G2', S', T', N', at_ ⟨rfl, rfl, rfl, rfl, trivial⟩, hi', hP5, hS', hN'⟩, by omega⟩
  · refine swp_exit ?_; (repeat (first | with_reducible refine e_then ?_ | with_reducible refine e_jump ?_)); refine e_block ?_; (repeat (first | with_reducible refine n_then ?_ | with_reducible refine n_block ?_ | with_reducible refine n_jump ?_))
    (repeat (first | refine swp_seq ?_ | refine swp_block ?_)); refine swp_region (by kernel_rfl) ?_
    repeat (first | refine x_move (by rfl) ?_ | refine x_as (by rfl) (by rfl) ?_ | refine x_skip (by rfl) ?_ | refine x_fld (by rfl) (by rfl) FldO.h ?_ | refine x_nilck (by rfl) (by rfl) ?_ | refine x_len (by rfl) (by rfl) ElOf.some ?_ | refine x_ext (by rfl) (by rfl) (by rfl) ?_ | refine x_pickT (by rfl) (by rfl) (by rfl) ?_ | refine x_pickF (by rfl) (by rfl) (by rfl) ?_ | refine x_add (by rfl) (by rfl) (by rfl) (by omega) ?_ | refine x_sub (by rfl) (by rfl) (by rfl) (by omega) ?_ | refine x_not (by rfl) (by rfl) ?_)
    refine x_nilw ?_
    refine swp_ret ?_; (repeat (first | with_reducible refine r_then ?_ | with_reducible refine r_block ?_ | with_reducible refine r_jump ?_))
    exact post1 rfl rfl ⟨_, rfl, rfl, hP.ext⟩
end Go.Proofs.Ytpnigekkbmanlaa
