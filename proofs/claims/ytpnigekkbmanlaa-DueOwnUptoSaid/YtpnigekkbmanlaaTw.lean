/- The document's copy of a match, thing by thing. Conditions: what is read; room. -/
import Derived.Test.YtpnigekkbmanlaaOw
namespace Go.Proofs.Ytpnigekkbmanlaa
open Sx Hp
theorem take_fl {α : Type} {enc : α → List Value} {l : List α} {i : Nat} {x : α} (h : l[i]? = some x) : fl enc (l.take i) ++ enc x = fl enc (l.take (i + 1)) := by rw [take_succ' h, fl_append, fl_one]

set_option maxHeartbeats 2000000 in
set_option maxRecDepth 100000 in
theorem twin_match (x : Mt) (w : World) (hx : x.Rdy w) (hs : x.Sm) : Gets Try.prog 13 [x.v] w fun v w' => ∃ y : Mt, v = y.v ∧ Copy w w' x y := by
  refine ⟨GoFn.h, calls_of_swp 62 Try.func13 Try.ntmps13 rfl (Nat.le_of_ble_eq_true rfl) ?_⟩
  (repeat (first | refine swp_seq ?_ | refine swp_block ?_)); refine swp_region (by kernel_rfl) ?_
  refine w_boxA (by rfl) (by rfl) (by rfl) ?_; intro b1 w1 e1 u1 h1
  have l0 := h1.lt
  refine w_alloc (by rfl) (by rfl) ZeroT.h ?_; intro b2 w2 e2 u2 h2
  replace h1 : Blk w2 b1 29 x.cells := h1.at u2
  have s1 := u1.size; have s2 := u2.size
  refine x_nilw ?_
  have l1 := h1.lt
  have l2 := h2.lt
  (repeat (first | refine swp_seq ?_ | refine swp_block ?_)); refine swp_region (by kernel_rfl) ?_
  repeat (first | refine x_move (by rfl) ?_ | refine x_as (by rfl) (by rfl) ?_ | refine x_skip (by rfl) ?_ | refine x_fld (by rfl) (by rfl) FldO.h ?_ | refine x_nilck (by rfl) (by rfl) ?_ | refine x_len (by rfl) (by rfl) ElOf.some ?_ | refine x_ext (by rfl) (by rfl) (by rfl) ?_ | refine x_pickT (by rfl) (by rfl) (by rfl) ?_ | refine x_pickF (by rfl) (by rfl) (by rfl) ?_ | refine x_add (by rfl) (by rfl) (by rfl) (by omega) ?_ | refine x_sub (by rfl) (by rfl) (by rfl) (by omega) ?_ | refine x_not (by rfl) (by rfl) ?_)
  refine w_load (by rfl) (by rfl) (load_one (v := .int .i64 x.dec) OneT.h h1 (by rfl)) ?_
  refine x_build (v := .agg [.int .i64 x.dec, .slice none 0 0, .slice none 0 0, .slice none 0 0].toArray) (by rfl) (by rfl) (fun _ => by kernel_rfl) ?_
  refine w_alloc (by rfl) (by rfl) ZeroT.h ?_; intro b3 w3 e3 u3 h3
  refine w_store (xs := [.int .i64 x.dec, .slice none 0 0, .slice none 0 0, .slice none 0 0]) (by rfl) (by rfl) (by rfl) (by rfl) SzT.h (by rfl) (by rfl) h3 (by simp) ?_
  intro w4 u4 h4 _
  refine x_nilw ?_
  have l3 := h3.lt
  have s3 := u3.size
  have s4 := u4.size
  replace h4 : Blk w4 b3 29 [.int .i64 x.dec, .slice none 0 0, .slice none 0 0, .slice none 0 0] := h4
  have uu : Ext w w4 := ((u1.trans u2).trans u3).trans' u4 fun b hb e => by have e' : b = b3 := e; omega
  have u24 : Ext w2 w4 := u3.trans' u4 fun b hb e => by have e' : b = b3 := e; omega
  replace h1 := h1.at u24
  replace h2 := h2.at u24
  have rr := hx.at uu
  obtain ⟨rn, rl, rv, lln, lll, llv⟩ := rr
  have inx : ∀ b, x.In b → b < w.heap.size := fun b hb => hx.lt hb
  have bw : w.heap.size ≤ b1 ∧ w.heap.size ≤ b2 ∧ w.heap.size ≤ b3 ∧ b1 < b2 ∧ b2 < b3 ∧ b3 < w4.heap.size := by have := h4.lt; omega
  clear h3 l0 l1 l2 l3 s1 s2 s3 s4 e1 e2 e3
  (repeat (first | refine swp_seq ?_ | refine swp_block ?_)); refine swp_region (by kernel_rfl) ?_
  repeat (first | refine x_move (by rfl) ?_ | refine x_as (by rfl) (by rfl) ?_ | refine x_skip (by rfl) ?_ | refine x_fld (by rfl) (by rfl) FldO.h ?_ | refine w_load (by rfl) (by rfl) (load_one OneT.h (by assumption) (by rfl)) ?_ | refine x_nilck (by rfl) (by rfl) ?_ | refine x_len (by rfl) (by rfl) ElOf.some ?_ | refine x_iface (by rfl) (by rfl) NIf.h ?_ | refine x_ext (by rfl) (by rfl) (by rfl) ?_ | refine x_pickT (by rfl) (by rfl) (by rfl) ?_ | refine x_pickF (by rfl) (by rfl) (by rfl) ?_ | refine x_add (by rfl) (by rfl) (by rfl) (by omega) ?_ | refine x_sub (by rfl) (by rfl) (by rfl) (by omega) ?_ | refine x_lss (by rfl) (by rfl) (by rfl) ?_ | refine x_geq (by rfl) (by rfl) (by rfl) ?_ | refine x_leq (by rfl) (by rfl) (by rfl) ?_ | refine x_gtr (by rfl) (by rfl) (by rfl) ?_ | refine x_eql (by rfl) (by rfl) (by rfl) ?_ | refine x_neq (by rfl) (by rfl) (by rfl) ?_ | refine x_not (by rfl) (by rfl) ?_)
  refine x_nilw ?_
  refine swp_fit [(1, .pointer (some ⟨b1, 0, none⟩)), (2, .pointer (some ⟨b2, 0, none⟩)), (3, .pointer (some ⟨b3, 0, none⟩)), (4, .int .i64 ((0 : Nat) : Int))] ⟨rfl, rfl, rfl, rfl, trivial⟩ fun ρ => ?_
  (repeat (first | refine swp_seq ?_ | refine swp_block ?_))
  refine swp_loop (fun (i : Nat) σ w' => At σ [(1, .pointer (some ⟨b1, 0, none⟩)), (2, .pointer (some ⟨b2, 0, none⟩)), (3, .pointer (some ⟨b3, 0, none⟩)), (4, .int .i64 (i : Nat))] ∧ i ≤ x.names.length ∧ ∃ sv, Blk w' b3 29 [.int .i64 x.dec, sv, .slice none 0 0, .slice none 0 0] ∧ Own w' 68 2 sv i (fl Nm.cells (x.names.take i)) ∧ (∀ b, isIn sv b → w4.heap.size ≤ b) ∧ Upd (fun b => b = b3) w4 w') (fun i => x.names.length - i) 0 ⟨at_ ⟨rfl, rfl, rfl, rfl, trivial⟩, by omega, .slice none 0 0, h4, Own.nil _ _ _, fun b h => h.elim, Upd.refl _ _⟩ ?_
  rintro i σ w20 ⟨⟨ρ, rfl⟩, hi, sv0, h4, own0, in0, u20⟩
  have s0 := u20.size
  have rn' := rn.get0 u20 fun b h0 hb e => by have := inx b (.inl ⟨h0, hb⟩); have e' : b = b3 := e; omega
  replace h1 := h1.get u20 (by omega)
  replace h2 := h2.get u20 (by omega)
  obtain ⟨a0, c0, rfl⟩ := own0.slice
  (repeat (first | refine swp_seq ?_ | refine swp_block ?_)); refine swp_region (by kernel_rfl) ?_
  repeat (first | refine x_move (by rfl) ?_ | refine x_as (by rfl) (by rfl) ?_ | refine x_skip (by rfl) ?_ | refine x_fld (by rfl) (by rfl) FldO.h ?_ | refine w_load (by rfl) (by rfl) (load_one OneT.h (by assumption) (by rfl)) ?_ | refine x_nilck (by rfl) (by rfl) ?_ | refine x_len (by rfl) (by rfl) ElOf.some ?_ | refine x_iface (by rfl) (by rfl) NIf.h ?_ | refine x_ext (by rfl) (by rfl) (by rfl) ?_ | refine x_pickT (by rfl) (by rfl) (by rfl) ?_ | refine x_pickF (by rfl) (by rfl) (by rfl) ?_ | refine x_add (by rfl) (by rfl) (by rfl) (by omega) ?_ | refine x_sub (by rfl) (by rfl) (by rfl) (by omega) ?_ | refine x_lss (by rfl) (by rfl) (by rfl) ?_ | refine x_geq (by rfl) (by rfl) (by rfl) ?_ | refine x_leq (by rfl) (by rfl) (by rfl) ?_ | refine x_gtr (by rfl) (by rfl) (by rfl) ?_ | refine x_eql (by rfl) (by rfl) (by rfl) ?_ | refine x_neq (by rfl) (by rfl) (by rfl) ?_ | refine x_not (by rfl) (by rfl) ?_)
  refine x_nilw ?_
  (repeat (first | refine swp_seq ?_ | refine swp_block ?_))
  refine swp_if (by rfl) (fun hend => swp_skip ?_) (fun hend => ?_)
  · have hj1 : i < x.names.length := by omega
    obtain ⟨nx, hnx⟩ := nthE hj1
    obtain ⟨p1, o1, d1, he1, -, -⟩ := rn'.pos (by omega)
    simp only [Mt.ns, Value.slice.injEq] at he1
    obtain ⟨ea1, _, rfl⟩ := he1
    have g1 : Blk w20 b1 29 [.int .i64 x.dec, .slice (some ⟨p1, o1, none⟩) x.names.length x.nc, .slice x.la x.lens.length x.lc, .slice x.va x.vals.length x.vc] := by rw [← ea1]; exact h1
    have r1 := rn'
    rw [Mt.ns, ea1] at r1
    (repeat (first | with_reducible refine n_then ?_ | with_reducible refine n_block ?_ | with_reducible refine n_jump ?_))
    (repeat (first | refine swp_seq ?_ | refine swp_block ?_)); refine swp_draw (Ext w20) [1007] Mixed.h (by kernel_rfl) (by kernel_rfl) (ext_drew w20) ?_
    repeat (first | refine x_move (by rfl) ?_ | refine x_as (by rfl) (by rfl) ?_ | refine x_skip (by rfl) ?_ | refine x_fld (by rfl) (by rfl) FldO.h ?_ | refine x_nilck (by rfl) (by rfl) ?_ | refine x_len (by rfl) (by rfl) ElOf.some ?_ | refine x_ext (by rfl) (by rfl) (by rfl) ?_ | refine x_pickT (by rfl) (by rfl) (by rfl) ?_ | refine x_pickF (by rfl) (by rfl) (by rfl) ?_ | refine x_add (by rfl) (by rfl) (by rfl) (by omega) ?_ | refine x_sub (by rfl) (by rfl) (by rfl) (by omega) ?_ | refine x_not (by rfl) (by rfl) ?_)
    refine q_load (by rfl) (by rfl) (by rfl) (fun w' hw' => load_one OneT.h (h4.at hw') (by rfl)) ?_
    repeat (first | refine x_move (by rfl) ?_ | refine x_as (by rfl) (by rfl) ?_ | refine x_skip (by rfl) ?_ | refine x_fld (by rfl) (by rfl) FldO.h ?_ | refine x_nilck (by rfl) (by rfl) ?_ | refine x_len (by rfl) (by rfl) ElOf.some ?_ | refine x_ext (by rfl) (by rfl) (by rfl) ?_ | refine x_pickT (by rfl) (by rfl) (by rfl) ?_ | refine x_pickF (by rfl) (by rfl) (by rfl) ?_ | refine x_add (by rfl) (by rfl) (by rfl) (by omega) ?_ | refine x_sub (by rfl) (by rfl) (by rfl) (by omega) ?_ | refine x_not (by rfl) (by rfl) ?_)
    refine q_load (by rfl) (by rfl) (by rfl) (fun w' hw' => load_one OneT.h (g1.at hw') (by rfl)) ?_
    repeat (first | refine x_move (by rfl) ?_ | refine x_as (by rfl) (by rfl) ?_ | refine x_skip (by rfl) ?_ | refine x_fld (by rfl) (by rfl) FldO.h ?_ | refine x_nilck (by rfl) (by rfl) ?_ | refine x_len (by rfl) (by rfl) ElOf.some ?_ | refine x_ext (by rfl) (by rfl) (by rfl) ?_ | refine x_pickT (by rfl) (by rfl) (by rfl) ?_ | refine x_pickF (by rfl) (by rfl) (by rfl) ?_ | refine x_add (by rfl) (by rfl) (by rfl) (by omega) ?_ | refine x_sub (by rfl) (by rfl) (by rfl) (by omega) ?_ | refine x_not (by rfl) (by rfl) ?_)
    refine x_idx i (by rfl) (by rfl) (by rfl) ElSz.h rfl hj1 ?_
    refine q_load (by rfl) (by rfl) (by rfl) (fun w' hw' => rd_load nm_len' AggT.h (r1.at hw') hnx rfl rfl) ?_
    refine f_bslice (e := 68) (cs := nx.cells) (by rfl) (by rfl) (by rfl) (by kernel_rfl) (fun _ _ h u => Upd.trans h u) ?_
    intro v1 c2 v2 q1 f2 q2 k2
    refine x_fix (by rfl) (by rfl) (by rfl) fun v3 q3 => ?_
    have q0 := (q1.trans q2).trans q3
    refine w_append (more := []) (news := nx.cells) (by rfl) (by rfl) (by rfl) (by rfl) SlC.h (own0.at q0) (by rw [List.append_nil]; exact k2.at q3) (by rfl) (by rfl) (by omega) ((room_of hs.n (by omega)).le (by omega)) ?_
    intro sv' v4 own' q4 in'
    rw [show nx.cells = Nm.cells nx from rfl, take_fl hnx] at own'
    obtain ⟨as', cs', rfl⟩ := own'.slice
    repeat (first | refine x_move (by rfl) ?_ | refine x_as (by rfl) (by rfl) ?_ | refine x_skip (by rfl) ?_ | refine x_fld (by rfl) (by rfl) FldO.h ?_ | refine x_nilck (by rfl) (by rfl) ?_ | refine x_len (by rfl) (by rfl) ElOf.some ?_ | refine x_ext (by rfl) (by rfl) (by rfl) ?_ | refine x_pickT (by rfl) (by rfl) (by rfl) ?_ | refine x_pickF (by rfl) (by rfl) (by rfl) ?_ | refine x_add (by rfl) (by rfl) (by rfl) (by omega) ?_ | refine x_sub (by rfl) (by rfl) (by rfl) (by omega) ?_ | refine x_not (by rfl) (by rfl) ?_)
    have q04 := q0.size
    refine w_store (xs := [.slice as' (i + 1) cs']) (by rfl) (by rfl) (by rfl) (by rfl) SzT.h (by rfl) (by rfl) ((h4.at q0).get q4 fun h => by have := in0 b3 h; omega) (by simp) ?_
    intro v5 q5 h5 _
    refine x_nilw ?_
    have fr' : ∀ b, isIn (.slice as' (i + 1) cs') b → w4.heap.size ≤ b := fun b hb => by
      rcases in' b hb with h | h
      · exact in0 b h
      · omega
    replace h5 : Blk v5 b3 29 [.int .i64 x.dec, .slice as' (i + 1) cs', .slice none 0 0, .slice none 0 0] := h5
    (repeat (first | with_reducible refine n_then ?_ | with_reducible refine n_block ?_ | with_reducible refine n_jump ?_))
    (repeat (first | refine swp_seq ?_ | refine swp_block ?_)); refine swp_region (by kernel_rfl) ?_
    repeat (first | refine x_move (by rfl) ?_ | refine x_as (by rfl) (by rfl) ?_ | refine x_skip (by rfl) ?_ | refine x_fld (by rfl) (by rfl) FldO.h ?_ | refine w_load (by rfl) (by rfl) (load_one OneT.h (by assumption) (by rfl)) ?_ | refine x_nilck (by rfl) (by rfl) ?_ | refine x_len (by rfl) (by rfl) ElOf.some ?_ | refine x_iface (by rfl) (by rfl) NIf.h ?_ | refine x_ext (by rfl) (by rfl) (by rfl) ?_ | refine x_pickT (by rfl) (by rfl) (by rfl) ?_ | refine x_pickF (by rfl) (by rfl) (by rfl) ?_ | refine x_add (by rfl) (by rfl) (by rfl) (by omega) ?_ | refine x_sub (by rfl) (by rfl) (by rfl) (by omega) ?_ | refine x_lss (by rfl) (by rfl) (by rfl) ?_ | refine x_geq (by rfl) (by rfl) (by rfl) ?_ | refine x_leq (by rfl) (by rfl) (by rfl) ?_ | refine x_gtr (by rfl) (by rfl) (by rfl) ?_ | refine x_eql (by rfl) (by rfl) (by rfl) ?_ | refine x_neq (by rfl) (by rfl) (by rfl) ?_ | refine x_not (by rfl) (by rfl) ?_)
    refine x_nilw ?_
    exact ⟨i + 1, ⟨at_ ⟨rfl, rfl, rfl, rfl, trivial⟩, hj1, .slice as' (i + 1) cs', h5, own'.get q5 fun b hb e => by have := fr' b hb; have e' : b = b3 := e; omega, fr', ((u20.ext q0).trans' q4 fun b hb h => by have := in0 b h; omega).trans' q5 fun b _ h => h⟩, by omega⟩
  · refine swp_exit ?_; (repeat (first | with_reducible refine e_then ?_ | with_reducible refine e_jump ?_)); refine e_block ?_; (repeat (first | with_reducible refine n_then ?_ | with_reducible refine n_block ?_ | with_reducible refine n_jump ?_))
    have hfin : i = x.names.length := by omega
    subst hfin
    rw [List.take_length] at own0
    refine swp_fit [(1, .pointer (some ⟨b1, 0, none⟩)), (2, .pointer (some ⟨b2, 0, none⟩)), (3, .pointer (some ⟨b3, 0, none⟩))] ⟨rfl, rfl, rfl, trivial⟩ fun ρ => ?_
    replace rl := rl.get0 u20 fun b h0 hb e => by have := inx b (.inr (.inl ⟨h0, hb⟩)); have e' : b = b3 := e; omega
    replace rv := rv.get0 u20 fun b h0 hb e => by have := inx b (.inr (.inr ⟨h0, hb⟩)); have e' : b = b3 := e; omega
    have lt0 : ∀ b, isIn (.slice a0 x.names.length c0) b → b < w20.heap.size := fun b hb => own0.lt hb
    replace uu : Ext w w20 := uu.trans' u20 fun b hb e => by have e' : b = b3 := e; omega
    (repeat (first | refine swp_seq ?_ | refine swp_block ?_)); refine swp_region (by kernel_rfl) ?_
    repeat (first | refine x_move (by rfl) ?_ | refine x_as (by rfl) (by rfl) ?_ | refine x_skip (by rfl) ?_ | refine x_fld (by rfl) (by rfl) FldO.h ?_ | refine w_load (by rfl) (by rfl) (load_one OneT.h (by assumption) (by rfl)) ?_ | refine x_nilck (by rfl) (by rfl) ?_ | refine x_len (by rfl) (by rfl) ElOf.some ?_ | refine x_iface (by rfl) (by rfl) NIf.h ?_ | refine x_ext (by rfl) (by rfl) (by rfl) ?_ | refine x_pickT (by rfl) (by rfl) (by rfl) ?_ | refine x_pickF (by rfl) (by rfl) (by rfl) ?_ | refine x_add (by rfl) (by rfl) (by rfl) (by omega) ?_ | refine x_sub (by rfl) (by rfl) (by rfl) (by omega) ?_ | refine x_lss (by rfl) (by rfl) (by rfl) ?_ | refine x_geq (by rfl) (by rfl) (by rfl) ?_ | refine x_leq (by rfl) (by rfl) (by rfl) ?_ | refine x_gtr (by rfl) (by rfl) (by rfl) ?_ | refine x_eql (by rfl) (by rfl) (by rfl) ?_ | refine x_neq (by rfl) (by rfl) (by rfl) ?_ | refine x_not (by rfl) (by rfl) ?_)
    refine x_nilw ?_
    refine swp_fit [(1, .pointer (some ⟨b1, 0, none⟩)), (2, .pointer (some ⟨b2, 0, none⟩)), (3, .pointer (some ⟨b3, 0, none⟩)), (5, .int .i64 ((0 : Nat) : Int))] ⟨rfl, rfl, rfl, rfl, trivial⟩ fun ρ => ?_
    (repeat (first | refine swp_seq ?_ | refine swp_block ?_))
    refine swp_loop (fun (i : Nat) σ w' => At σ [(1, .pointer (some ⟨b1, 0, none⟩)), (2, .pointer (some ⟨b2, 0, none⟩)), (3, .pointer (some ⟨b3, 0, none⟩)), (5, .int .i64 (i : Nat))] ∧ i ≤ x.lens.length ∧ ∃ sv, Blk w' b3 29 [.int .i64 x.dec, .slice a0 x.names.length c0, sv, .slice none 0 0] ∧ Own w' 3 1 sv i (fl encN (x.lens.take i)) ∧ (∀ b, isIn sv b → w20.heap.size ≤ b) ∧ Upd (fun b => b = b3) w20 w') (fun i => x.lens.length - i) 0 ⟨at_ ⟨rfl, rfl, rfl, rfl, trivial⟩, by omega, .slice none 0 0, h4, Own.nil _ _ _, fun b h => h.elim, Upd.refl _ _⟩ ?_
    rintro i σ w21 ⟨⟨ρ, rfl⟩, hi, sv1, h4, own1, in1, u21⟩
    have s1 := u21.size
    have rl' := rl.get0 u21 fun b h0 hb e => by have := inx b (.inr (.inl ⟨h0, hb⟩)); have e' : b = b3 := e; omega
    replace h1 := h1.get u21 (by omega)
    replace h2 := h2.get u21 (by omega)
    obtain ⟨a1, c1, rfl⟩ := own1.slice
    (repeat (first | refine swp_seq ?_ | refine swp_block ?_)); refine swp_region (by kernel_rfl) ?_
    repeat (first | refine x_move (by rfl) ?_ | refine x_as (by rfl) (by rfl) ?_ | refine x_skip (by rfl) ?_ | refine x_fld (by rfl) (by rfl) FldO.h ?_ | refine w_load (by rfl) (by rfl) (load_one OneT.h (by assumption) (by rfl)) ?_ | refine x_nilck (by rfl) (by rfl) ?_ | refine x_len (by rfl) (by rfl) ElOf.some ?_ | refine x_iface (by rfl) (by rfl) NIf.h ?_ | refine x_ext (by rfl) (by rfl) (by rfl) ?_ | refine x_pickT (by rfl) (by rfl) (by rfl) ?_ | refine x_pickF (by rfl) (by rfl) (by rfl) ?_ | refine x_add (by rfl) (by rfl) (by rfl) (by omega) ?_ | refine x_sub (by rfl) (by rfl) (by rfl) (by omega) ?_ | refine x_lss (by rfl) (by rfl) (by rfl) ?_ | refine x_geq (by rfl) (by rfl) (by rfl) ?_ | refine x_leq (by rfl) (by rfl) (by rfl) ?_ | refine x_gtr (by rfl) (by rfl) (by rfl) ?_ | refine x_eql (by rfl) (by rfl) (by rfl) ?_ | refine x_neq (by rfl) (by rfl) (by rfl) ?_ | refine x_not (by rfl) (by rfl) ?_)
    refine x_nilw ?_
    (repeat (first | refine swp_seq ?_ | refine swp_block ?_))
    refine swp_if (by rfl) (fun hend => swp_skip ?_) (fun hend => ?_)
    · have hj1 : i < x.lens.length := by omega
      obtain ⟨nx, hnx⟩ := nthE hj1
      obtain ⟨p1, o1, d1, he1, -, -⟩ := rl'.pos (by omega)
      simp only [Mt.ls, Value.slice.injEq] at he1
      obtain ⟨ea1, _, rfl⟩ := he1
      have g1 : Blk w21 b1 29 [.int .i64 x.dec, .slice x.na x.names.length x.nc, .slice (some ⟨p1, o1, none⟩) x.lens.length x.lc, .slice x.va x.vals.length x.vc] := by rw [← ea1]; exact h1
      have r1 := rl'
      rw [Mt.ls, ea1] at r1
      (repeat (first | with_reducible refine n_then ?_ | with_reducible refine n_block ?_ | with_reducible refine n_jump ?_))
      (repeat (first | refine swp_seq ?_ | refine swp_block ?_)); refine swp_draw (Ext w21) [1007] Mixed.h (by kernel_rfl) (by kernel_rfl) (ext_drew w21) ?_
      repeat (first | refine x_move (by rfl) ?_ | refine x_as (by rfl) (by rfl) ?_ | refine x_skip (by rfl) ?_ | refine x_fld (by rfl) (by rfl) FldO.h ?_ | refine x_nilck (by rfl) (by rfl) ?_ | refine x_len (by rfl) (by rfl) ElOf.some ?_ | refine x_ext (by rfl) (by rfl) (by rfl) ?_ | refine x_pickT (by rfl) (by rfl) (by rfl) ?_ | refine x_pickF (by rfl) (by rfl) (by rfl) ?_ | refine x_add (by rfl) (by rfl) (by rfl) (by omega) ?_ | refine x_sub (by rfl) (by rfl) (by rfl) (by omega) ?_ | refine x_not (by rfl) (by rfl) ?_)
      refine q_load (by rfl) (by rfl) (by rfl) (fun w' hw' => load_one OneT.h (h4.at hw') (by rfl)) ?_
      repeat (first | refine x_move (by rfl) ?_ | refine x_as (by rfl) (by rfl) ?_ | refine x_skip (by rfl) ?_ | refine x_fld (by rfl) (by rfl) FldO.h ?_ | refine x_nilck (by rfl) (by rfl) ?_ | refine x_len (by rfl) (by rfl) ElOf.some ?_ | refine x_ext (by rfl) (by rfl) (by rfl) ?_ | refine x_pickT (by rfl) (by rfl) (by rfl) ?_ | refine x_pickF (by rfl) (by rfl) (by rfl) ?_ | refine x_add (by rfl) (by rfl) (by rfl) (by omega) ?_ | refine x_sub (by rfl) (by rfl) (by rfl) (by omega) ?_ | refine x_not (by rfl) (by rfl) ?_)
      refine q_load (by rfl) (by rfl) (by rfl) (fun w' hw' => load_one OneT.h (g1.at hw') (by rfl)) ?_
      repeat (first | refine x_move (by rfl) ?_ | refine x_as (by rfl) (by rfl) ?_ | refine x_skip (by rfl) ?_ | refine x_fld (by rfl) (by rfl) FldO.h ?_ | refine x_nilck (by rfl) (by rfl) ?_ | refine x_len (by rfl) (by rfl) ElOf.some ?_ | refine x_ext (by rfl) (by rfl) (by rfl) ?_ | refine x_pickT (by rfl) (by rfl) (by rfl) ?_ | refine x_pickF (by rfl) (by rfl) (by rfl) ?_ | refine x_add (by rfl) (by rfl) (by rfl) (by omega) ?_ | refine x_sub (by rfl) (by rfl) (by rfl) (by omega) ?_ | refine x_not (by rfl) (by rfl) ?_)
      refine x_idx i (by rfl) (by rfl) (by rfl) ElSz.h rfl hj1 ?_
      refine q_load (by rfl) (by rfl) (by rfl) (fun w' hw' => load_one_cell OneT.h (rd_cell (v := .int .i64 nx) (j := 0) encN_len (r1.at hw') hnx rfl rfl rfl)) ?_
      refine f_bslice (e := 3) (cs := [.int .i64 nx]) (by rfl) (by rfl) (by rfl) (by kernel_rfl) (fun _ _ h u => Upd.trans h u) ?_
      intro v1 c2 v2 q1 f2 q2 k2
      refine x_fix (by rfl) (by rfl) (by rfl) fun v3 q3 => ?_
      have q0 := (q1.trans q2).trans q3
      refine w_append (more := []) (news := [.int .i64 nx]) (by rfl) (by rfl) (by rfl) (by rfl) SlC.h (own1.at q0) (by rw [List.append_nil]; exact k2.at q3) (by rfl) (by rfl) (by omega) ((room_of hs.l (by omega)).le (by omega)) ?_
      intro sv' v4 own' q4 in'
      rw [show [.int .i64 nx] = encN nx from rfl, take_fl hnx] at own'
      obtain ⟨as', cs', rfl⟩ := own'.slice
      repeat (first | refine x_move (by rfl) ?_ | refine x_as (by rfl) (by rfl) ?_ | refine x_skip (by rfl) ?_ | refine x_fld (by rfl) (by rfl) FldO.h ?_ | refine x_nilck (by rfl) (by rfl) ?_ | refine x_len (by rfl) (by rfl) ElOf.some ?_ | refine x_ext (by rfl) (by rfl) (by rfl) ?_ | refine x_pickT (by rfl) (by rfl) (by rfl) ?_ | refine x_pickF (by rfl) (by rfl) (by rfl) ?_ | refine x_add (by rfl) (by rfl) (by rfl) (by omega) ?_ | refine x_sub (by rfl) (by rfl) (by rfl) (by omega) ?_ | refine x_not (by rfl) (by rfl) ?_)
      have q04 := q0.size
      refine w_store (xs := [.slice as' (i + 1) cs']) (by rfl) (by rfl) (by rfl) (by rfl) SzT.h (by rfl) (by rfl) ((h4.at q0).get q4 fun h => by have := in1 b3 h; omega) (by simp) ?_
      intro v5 q5 h5 _
      refine x_nilw ?_
      have fr' : ∀ b, isIn (.slice as' (i + 1) cs') b → w20.heap.size ≤ b := fun b hb => by
        rcases in' b hb with h | h
        · exact in1 b h
        · omega
      replace h5 : Blk v5 b3 29 [.int .i64 x.dec, .slice a0 x.names.length c0, .slice as' (i + 1) cs', .slice none 0 0] := h5
      (repeat (first | with_reducible refine n_then ?_ | with_reducible refine n_block ?_ | with_reducible refine n_jump ?_))
      (repeat (first | refine swp_seq ?_ | refine swp_block ?_)); refine swp_region (by kernel_rfl) ?_
      repeat (first | refine x_move (by rfl) ?_ | refine x_as (by rfl) (by rfl) ?_ | refine x_skip (by rfl) ?_ | refine x_fld (by rfl) (by rfl) FldO.h ?_ | refine w_load (by rfl) (by rfl) (load_one OneT.h (by assumption) (by rfl)) ?_ | refine x_nilck (by rfl) (by rfl) ?_ | refine x_len (by rfl) (by rfl) ElOf.some ?_ | refine x_iface (by rfl) (by rfl) NIf.h ?_ | refine x_ext (by rfl) (by rfl) (by rfl) ?_ | refine x_pickT (by rfl) (by rfl) (by rfl) ?_ | refine x_pickF (by rfl) (by rfl) (by rfl) ?_ | refine x_add (by rfl) (by rfl) (by rfl) (by omega) ?_ | refine x_sub (by rfl) (by rfl) (by rfl) (by omega) ?_ | refine x_lss (by rfl) (by rfl) (by rfl) ?_ | refine x_geq (by rfl) (by rfl) (by rfl) ?_ | refine x_leq (by rfl) (by rfl) (by rfl) ?_ | refine x_gtr (by rfl) (by rfl) (by rfl) ?_ | refine x_eql (by rfl) (by rfl) (by rfl) ?_ | refine x_neq (by rfl) (by rfl) (by rfl) ?_ | refine x_not (by rfl) (by rfl) ?_)
      refine x_nilw ?_
      exact ⟨i + 1, ⟨at_ ⟨rfl, rfl, rfl, rfl, trivial⟩, hj1, .slice as' (i + 1) cs', h5, own'.get q5 fun b hb e => by have := fr' b hb; have e' : b = b3 := e; omega, fr', ((u21.ext q0).trans' q4 fun b hb h => by have := in1 b h; omega).trans' q5 fun b _ h => h⟩, by omega⟩
    · refine swp_exit ?_; (repeat (first | with_reducible refine e_then ?_ | with_reducible refine e_jump ?_)); refine e_block ?_; (repeat (first | with_reducible refine n_then ?_ | with_reducible refine n_block ?_ | with_reducible refine n_jump ?_))
      have hfin : i = x.lens.length := by omega
      subst hfin
      rw [List.take_length] at own1
      refine swp_fit [(1, .pointer (some ⟨b1, 0, none⟩)), (2, .pointer (some ⟨b2, 0, none⟩)), (3, .pointer (some ⟨b3, 0, none⟩))] ⟨rfl, rfl, rfl, trivial⟩ fun ρ => ?_
      replace rv := rv.get0 u21 fun b h0 hb e => by have := inx b (.inr (.inr ⟨h0, hb⟩)); have e' : b = b3 := e; omega
      replace own0 := own0.get u21 fun b hb e => by have := in0 b hb; have e' : b = b3 := e; omega
      have lt1 : ∀ b, isIn (.slice a1 x.lens.length c1) b → b < w21.heap.size := fun b hb => own1.lt hb
      replace uu : Ext w w21 := uu.trans' u21 fun b hb e => by have e' : b = b3 := e; omega
      (repeat (first | refine swp_seq ?_ | refine swp_block ?_)); refine swp_region (by kernel_rfl) ?_
      repeat (first | refine x_move (by rfl) ?_ | refine x_as (by rfl) (by rfl) ?_ | refine x_skip (by rfl) ?_ | refine x_fld (by rfl) (by rfl) FldO.h ?_ | refine w_load (by rfl) (by rfl) (load_one OneT.h (by assumption) (by rfl)) ?_ | refine x_nilck (by rfl) (by rfl) ?_ | refine x_len (by rfl) (by rfl) ElOf.some ?_ | refine x_iface (by rfl) (by rfl) NIf.h ?_ | refine x_ext (by rfl) (by rfl) (by rfl) ?_ | refine x_pickT (by rfl) (by rfl) (by rfl) ?_ | refine x_pickF (by rfl) (by rfl) (by rfl) ?_ | refine x_add (by rfl) (by rfl) (by rfl) (by omega) ?_ | refine x_sub (by rfl) (by rfl) (by rfl) (by omega) ?_ | refine x_lss (by rfl) (by rfl) (by rfl) ?_ | refine x_geq (by rfl) (by rfl) (by rfl) ?_ | refine x_leq (by rfl) (by rfl) (by rfl) ?_ | refine x_gtr (by rfl) (by rfl) (by rfl) ?_ | refine x_eql (by rfl) (by rfl) (by rfl) ?_ | refine x_neq (by rfl) (by rfl) (by rfl) ?_ | refine x_not (by rfl) (by rfl) ?_)
      refine x_nilw ?_
      refine swp_fit [(1, .pointer (some ⟨b1, 0, none⟩)), (2, .pointer (some ⟨b2, 0, none⟩)), (3, .pointer (some ⟨b3, 0, none⟩)), (6, .int .i64 ((0 : Nat) : Int))] ⟨rfl, rfl, rfl, rfl, trivial⟩ fun ρ => ?_
      (repeat (first | refine swp_seq ?_ | refine swp_block ?_))
      refine swp_loop (fun (i : Nat) σ w' => At σ [(1, .pointer (some ⟨b1, 0, none⟩)), (2, .pointer (some ⟨b2, 0, none⟩)), (3, .pointer (some ⟨b3, 0, none⟩)), (6, .int .i64 (i : Nat))] ∧ i ≤ x.vals.length ∧ ∃ sv, Blk w' b3 29 [.int .i64 x.dec, .slice a0 x.names.length c0, .slice a1 x.lens.length c1, sv] ∧ Own w' 70 2 sv i (fl Vl.cells (x.vals.take i)) ∧ (∀ b, isIn sv b → w21.heap.size ≤ b) ∧ Upd (fun b => b = b3) w21 w') (fun i => x.vals.length - i) 0 ⟨at_ ⟨rfl, rfl, rfl, rfl, trivial⟩, by omega, .slice none 0 0, h4, Own.nil _ _ _, fun b h => h.elim, Upd.refl _ _⟩ ?_
      rintro i σ w22 ⟨⟨ρ, rfl⟩, hi, sv2, h4, own2, in2, u22⟩
      have s2 := u22.size
      have rv' := rv.get0 u22 fun b h0 hb e => by have := inx b (.inr (.inr ⟨h0, hb⟩)); have e' : b = b3 := e; omega
      replace h1 := h1.get u22 (by omega)
      replace h2 := h2.get u22 (by omega)
      obtain ⟨a2, c2, rfl⟩ := own2.slice
      (repeat (first | refine swp_seq ?_ | refine swp_block ?_)); refine swp_region (by kernel_rfl) ?_
      repeat (first | refine x_move (by rfl) ?_ | refine x_as (by rfl) (by rfl) ?_ | refine x_skip (by rfl) ?_ | refine x_fld (by rfl) (by rfl) FldO.h ?_ | refine w_load (by rfl) (by rfl) (load_one OneT.h (by assumption) (by rfl)) ?_ | refine x_nilck (by rfl) (by rfl) ?_ | refine x_len (by rfl) (by rfl) ElOf.some ?_ | refine x_iface (by rfl) (by rfl) NIf.h ?_ | refine x_ext (by rfl) (by rfl) (by rfl) ?_ | refine x_pickT (by rfl) (by rfl) (by rfl) ?_ | refine x_pickF (by rfl) (by rfl) (by rfl) ?_ | refine x_add (by rfl) (by rfl) (by rfl) (by omega) ?_ | refine x_sub (by rfl) (by rfl) (by rfl) (by omega) ?_ | refine x_lss (by rfl) (by rfl) (by rfl) ?_ | refine x_geq (by rfl) (by rfl) (by rfl) ?_ | refine x_leq (by rfl) (by rfl) (by rfl) ?_ | refine x_gtr (by rfl) (by rfl) (by rfl) ?_ | refine x_eql (by rfl) (by rfl) (by rfl) ?_ | refine x_neq (by rfl) (by rfl) (by rfl) ?_ | refine x_not (by rfl) (by rfl) ?_)
      refine x_nilw ?_
      (repeat (first | refine swp_seq ?_ | refine swp_block ?_))
      refine swp_if (by rfl) (fun hend => swp_skip ?_) (fun hend => ?_)
      · have hj1 : i < x.vals.length := by omega
        obtain ⟨nx, hnx⟩ := nthE hj1
        obtain ⟨p1, o1, d1, he1, -, -⟩ := rv'.pos (by omega)
        simp only [Mt.vs, Value.slice.injEq] at he1
        obtain ⟨ea1, _, rfl⟩ := he1
        have g1 : Blk w22 b1 29 [.int .i64 x.dec, .slice x.na x.names.length x.nc, .slice x.la x.lens.length x.lc, .slice (some ⟨p1, o1, none⟩) x.vals.length x.vc] := by rw [← ea1]; exact h1
        have r1 := rv'
        rw [Mt.vs, ea1] at r1
        (repeat (first | with_reducible refine n_then ?_ | with_reducible refine n_block ?_ | with_reducible refine n_jump ?_))
        (repeat (first | refine swp_seq ?_ | refine swp_block ?_)); refine swp_draw (Ext w22) [1007] Mixed.h (by kernel_rfl) (by kernel_rfl) (ext_drew w22) ?_
        repeat (first | refine x_move (by rfl) ?_ | refine x_as (by rfl) (by rfl) ?_ | refine x_skip (by rfl) ?_ | refine x_fld (by rfl) (by rfl) FldO.h ?_ | refine x_nilck (by rfl) (by rfl) ?_ | refine x_len (by rfl) (by rfl) ElOf.some ?_ | refine x_ext (by rfl) (by rfl) (by rfl) ?_ | refine x_pickT (by rfl) (by rfl) (by rfl) ?_ | refine x_pickF (by rfl) (by rfl) (by rfl) ?_ | refine x_add (by rfl) (by rfl) (by rfl) (by omega) ?_ | refine x_sub (by rfl) (by rfl) (by rfl) (by omega) ?_ | refine x_not (by rfl) (by rfl) ?_)
        refine q_load (by rfl) (by rfl) (by rfl) (fun w' hw' => load_one OneT.h (h4.at hw') (by rfl)) ?_
        repeat (first | refine x_move (by rfl) ?_ | refine x_as (by rfl) (by rfl) ?_ | refine x_skip (by rfl) ?_ | refine x_fld (by rfl) (by rfl) FldO.h ?_ | refine x_nilck (by rfl) (by rfl) ?_ | refine x_len (by rfl) (by rfl) ElOf.some ?_ | refine x_ext (by rfl) (by rfl) (by rfl) ?_ | refine x_pickT (by rfl) (by rfl) (by rfl) ?_ | refine x_pickF (by rfl) (by rfl) (by rfl) ?_ | refine x_add (by rfl) (by rfl) (by rfl) (by omega) ?_ | refine x_sub (by rfl) (by rfl) (by rfl) (by omega) ?_ | refine x_not (by rfl) (by rfl) ?_)
        refine q_load (by rfl) (by rfl) (by rfl) (fun w' hw' => load_one OneT.h (g1.at hw') (by rfl)) ?_
        repeat (first | refine x_move (by rfl) ?_ | refine x_as (by rfl) (by rfl) ?_ | refine x_skip (by rfl) ?_ | refine x_fld (by rfl) (by rfl) FldO.h ?_ | refine x_nilck (by rfl) (by rfl) ?_ | refine x_len (by rfl) (by rfl) ElOf.some ?_ | refine x_ext (by rfl) (by rfl) (by rfl) ?_ | refine x_pickT (by rfl) (by rfl) (by rfl) ?_ | refine x_pickF (by rfl) (by rfl) (by rfl) ?_ | refine x_add (by rfl) (by rfl) (by rfl) (by omega) ?_ | refine x_sub (by rfl) (by rfl) (by rfl) (by omega) ?_ | refine x_not (by rfl) (by rfl) ?_)
        refine x_idx i (by rfl) (by rfl) (by rfl) ElSz.h rfl hj1 ?_
        refine q_load (by rfl) (by rfl) (by rfl) (fun w' hw' => rd_load vl_len AggT.h (r1.at hw') hnx rfl rfl) ?_
        refine f_bslice (e := 70) (cs := nx.cells) (by rfl) (by rfl) (by rfl) (by kernel_rfl) (fun _ _ h u => Upd.trans h u) ?_
        intro v1 c2 v2 q1 f2 q2 k2
        refine x_fix (by rfl) (by rfl) (by rfl) fun v3 q3 => ?_
        have q0 := (q1.trans q2).trans q3
        refine w_append (more := []) (news := nx.cells) (by rfl) (by rfl) (by rfl) (by rfl) SlC.h (own2.at q0) (by rw [List.append_nil]; exact k2.at q3) (by rfl) (by rfl) (by omega) ((room_of hs.v (by omega)).le (by omega)) ?_
        intro sv' v4 own' q4 in'
        rw [show nx.cells = Vl.cells nx from rfl, take_fl hnx] at own'
        obtain ⟨as', cs', rfl⟩ := own'.slice
        repeat (first | refine x_move (by rfl) ?_ | refine x_as (by rfl) (by rfl) ?_ | refine x_skip (by rfl) ?_ | refine x_fld (by rfl) (by rfl) FldO.h ?_ | refine x_nilck (by rfl) (by rfl) ?_ | refine x_len (by rfl) (by rfl) ElOf.some ?_ | refine x_ext (by rfl) (by rfl) (by rfl) ?_ | refine x_pickT (by rfl) (by rfl) (by rfl) ?_ | refine x_pickF (by rfl) (by rfl) (by rfl) ?_ | refine x_add (by rfl) (by rfl) (by rfl) (by omega) ?_ | refine x_sub (by rfl) (by rfl) (by rfl) (by omega) ?_ | refine x_not (by rfl) (by rfl) ?_)
        have q04 := q0.size
        refine w_store (xs := [.slice as' (i + 1) cs']) (by rfl) (by rfl) (by rfl) (by rfl) SzT.h (by rfl) (by rfl) ((h4.at q0).get q4 fun h => by have := in2 b3 h; omega) (by simp) ?_
        intro v5 q5 h5 _
        refine x_nilw ?_
        have fr' : ∀ b, isIn (.slice as' (i + 1) cs') b → w21.heap.size ≤ b := fun b hb => by
          rcases in' b hb with h | h
          · exact in2 b h
          · omega
        replace h5 : Blk v5 b3 29 [.int .i64 x.dec, .slice a0 x.names.length c0, .slice a1 x.lens.length c1, .slice as' (i + 1) cs'] := h5
        (repeat (first | with_reducible refine n_then ?_ | with_reducible refine n_block ?_ | with_reducible refine n_jump ?_))
        (repeat (first | refine swp_seq ?_ | refine swp_block ?_)); refine swp_region (by kernel_rfl) ?_
        repeat (first | refine x_move (by rfl) ?_ | refine x_as (by rfl) (by rfl) ?_ | refine x_skip (by rfl) ?_ | refine x_fld (by rfl) (by rfl) FldO.h ?_ | refine w_load (by rfl) (by rfl) (load_one OneT.h (by assumption) (by rfl)) ?_ | refine x_nilck (by rfl) (by rfl) ?_ | refine x_len (by rfl) (by rfl) ElOf.some ?_ | refine x_iface (by rfl) (by rfl) NIf.h ?_ | refine x_ext (by rfl) (by rfl) (by rfl) ?_ | refine x_pickT (by rfl) (by rfl) (by rfl) ?_ | refine x_pickF (by rfl) (by rfl) (by rfl) ?_ | refine x_add (by rfl) (by rfl) (by rfl) (by omega) ?_ | refine x_sub (by rfl) (by rfl) (by rfl) (by omega) ?_ | refine x_lss (by rfl) (by rfl) (by rfl) ?_ | refine x_geq (by rfl) (by rfl) (by rfl) ?_ | refine x_leq (by rfl) (by rfl) (by rfl) ?_ | refine x_gtr (by rfl) (by rfl) (by rfl) ?_ | refine x_eql (by rfl) (by rfl) (by rfl) ?_ | refine x_neq (by rfl) (by rfl) (by rfl) ?_ | refine x_not (by rfl) (by rfl) ?_)
        refine x_nilw ?_
        exact ⟨i + 1, ⟨at_ ⟨rfl, rfl, rfl, rfl, trivial⟩, hj1, .slice as' (i + 1) cs', h5, own'.get q5 fun b hb e => by have := fr' b hb; have e' : b = b3 := e; omega, fr', ((u22.ext q0).trans' q4 fun b hb h => by have := in2 b h; omega).trans' q5 fun b _ h => h⟩, by omega⟩
      · refine swp_exit ?_; (repeat (first | with_reducible refine e_then ?_ | with_reducible refine e_jump ?_)); refine e_block ?_; (repeat (first | with_reducible refine n_then ?_ | with_reducible refine n_block ?_ | with_reducible refine n_jump ?_))
        have hfin : i = x.vals.length := by omega
        subst hfin
        rw [List.take_length] at own2
        refine swp_fit [(1, .pointer (some ⟨b1, 0, none⟩)), (2, .pointer (some ⟨b2, 0, none⟩)), (3, .pointer (some ⟨b3, 0, none⟩))] ⟨rfl, rfl, rfl, trivial⟩ fun ρ => ?_
        replace own0 := own0.get u22 fun b hb e => by have := in0 b hb; have e' : b = b3 := e; omega
        replace own1 := own1.get u22 fun b hb e => by have := in1 b hb; have e' : b = b3 := e; omega
        have lt2 : ∀ b, isIn (.slice a2 x.vals.length c2) b → b < w22.heap.size := fun b hb => own2.lt hb
        replace uu : Ext w w22 := uu.trans' u22 fun b hb e => by have e' : b = b3 := e; omega
        obtain ⟨y, hy⟩ : ∃ y : Mt, y = ⟨x.dec, a0, c0, x.names, a1, c1, x.lens, a2, c2, x.vals⟩ := ⟨_, rfl⟩
        have hyc : y.cells = [.int .i64 x.dec, .slice a0 x.names.length c0, .slice a1 x.lens.length c1, .slice a2 x.vals.length c2] := by rw [hy]; rfl
        rw [← hyc] at h4
        (repeat (first | refine swp_seq ?_ | refine swp_block ?_)); refine swp_region (by kernel_rfl) ?_
        refine w_load (by rfl) (by rfl) (load_agg (xs := y.cells) AggT.h h4 (by rfl) (by rfl)) ?_
        refine w_store (xs := y.cells) (by rfl) (by rfl) (by rfl) (by rfl) SzT.h (by rfl) (by rfl) h2 (by simp) ?_
        intro w9 u9 h9 _
        refine x_nilw ?_
        refine swp_ret ?_; (repeat (first | with_reducible refine r_then ?_ | with_reducible refine r_block ?_ | with_reducible refine r_jump ?_))
        have hn : ∀ b, y.At b → w4.heap.size ≤ b := fun b hb => by
          rw [hy] at hb
          rcases hb with h | h | h
          · exact in0 b h
          · have := in1 b h; omega
          · have := in2 b h; omega
        have hown : y.Own w22 := by
          rw [hy]
          exact ⟨own0, own1, own2, fun b h h' => by have := lt0 b h; have := in1 b h'; omega, fun b h h' => by have := lt0 b h; have := in2 b h'; omega, fun b h h' => by have := lt1 b h; have := in2 b h'; omega, ⟨hs.n, hs.l, hs.v⟩⟩
        refine postC1 rfl rfl (load_agg (xs := y.cells) AggT.h h9 (by rfl) (by rfl)) ⟨_, rfl, y, rfl, by rw [hy]; rfl, hown.get u9 fun b hb e => by have := hn b hb; have e' : b = b2 := e; omega, fun b hb => by have := hn b hb; omega, ?_⟩
        exact uu.trans' u9 fun b hb e => by have e' : b = b2 := e; omega
end Go.Proofs.Ytpnigekkbmanlaa
