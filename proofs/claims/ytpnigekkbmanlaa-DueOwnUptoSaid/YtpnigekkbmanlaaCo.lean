/- copied: copies of what waits, owned whole. Conditions: what is read; room. -/
import Derived.Test.YtpnigekkbmanlaaWo
import Derived.Test.YtpnigekkbmanlaaTw
namespace Go.Proofs.Ytpnigekkbmanlaa
open Sx Hp

set_option maxHeartbeats 4000000 in
set_option maxRecDepth 100000 in
theorem copiedO {w : World} {s1 : Value} {ls : List Wt} (h1 : RL w s1 ls) (hb : ls.length * 104 ≤ 140737488351232) :
    Gets Try.prog 20 [s1] w fun v w' => ∃ out, Lsp tWo 40 w w' v out ∧ out.map Wt.says = ls.map Wt.says ∧ Ext w w' := by
  have r1 := h1.rd
  have hr104 : Room ls.length 104 := room_of hb (by omega)
  obtain ⟨a0, c0, rfl⟩ := r1.slice
  refine ⟨GoFn.h, calls_of_swp 130 Try.func20 Try.ntmps20 rfl (Nat.le_of_ble_eq_true rfl) ?_⟩
  (repeat (first | refine swp_seq ?_ | refine swp_block ?_)); refine swp_region (by kernel_rfl) ?_
  repeat (first | refine x_move (by rfl) ?_ | refine x_as (by rfl) (by rfl) ?_ | refine x_skip (by rfl) ?_ | refine x_fld (by rfl) (by rfl) FldO.h ?_)
  refine x_nilw ?_
  (repeat (first | refine swp_seq ?_ | refine swp_block ?_)); refine swp_region (by kernel_rfl) ?_
  repeat (first | refine x_move (by rfl) ?_ | refine x_as (by rfl) (by rfl) ?_ | refine x_skip (by rfl) ?_ | refine x_fld (by rfl) (by rfl) FldO.h ?_)
  refine x_nilw ?_
  (repeat (first | refine swp_seq ?_ | refine swp_block ?_)); refine swp_region (by kernel_rfl) ?_
  repeat (first | refine x_move (by rfl) ?_ | refine x_as (by rfl) (by rfl) ?_ | refine x_skip (by rfl) ?_ | refine x_fld (by rfl) (by rfl) FldO.h ?_)
  refine x_nilw ?_
  refine swp_fit [(0, .slice a0 ls.length c0), (3, .slice none 0 0), (4, .int .i64 ((0 : Nat) : Int))] ⟨rfl, rfl, rfl, trivial⟩ fun ρ => ?_
  (repeat (first | refine swp_seq ?_ | refine swp_block ?_))
  refine swp_loop (fun (n : Nat) σ w1 => ∃ so out, At σ [(0, .slice a0 ls.length c0), (3, so), (4, .int .i64 (n : Nat))] ∧ n ≤ ls.length ∧ Lsp tWo 40 w w1 so out ∧ out.map Wt.says = (ls.take n).map Wt.says ∧ Ext w w1) (fun n => ls.length - n) 0 ⟨.slice none 0 0, [], at_ ⟨rfl, rfl, rfl, trivial⟩, by omega, Lsp.nil _ _ _ _, rfl, Upd.refl _ _⟩ ?_
  rintro n σ w1 ⟨so, out, ⟨ρ, rfl⟩, hn, hLst, hsay, u01⟩
  have hlo : out.length = n := by have := congrArg List.length hsay; simp at this; omega
  (repeat (first | refine swp_seq ?_ | refine swp_block ?_)); refine swp_region (by kernel_rfl) ?_
  repeat (first | refine x_move (by rfl) ?_ | refine x_as (by rfl) (by rfl) ?_ | refine x_len (by rfl) (by rfl) ElOf.some ?_ | refine x_add (by rfl) (by rfl) (by rfl) (by omega) ?_ | refine x_lss (by rfl) (by rfl) (by rfl) ?_)
  refine x_nilw ?_
  (repeat (first | refine swp_seq ?_ | refine swp_block ?_))
  refine swp_if (by rfl) (fun h0 => swp_skip ?_) (fun h0 => ?_)
  · have hn' : n < ls.length := by omega
    obtain ⟨x, hx0⟩ := nthE hn'
    obtain ⟨p0, o0, d0, he0, -, -⟩ := r1.pos (by omega)
    simp only [Value.slice.injEq] at he0
    obtain ⟨rfl, _, rfl⟩ := he0
    have hx : x.Rdy w1 := (h1.each x (List.mem_of_getElem? hx0)).at u01
    (repeat (first | with_reducible refine n_then ?_ | with_reducible refine n_block ?_ | with_reducible refine n_jump ?_))
    (repeat (first | refine swp_seq ?_ | refine swp_block ?_)); refine swp_region (by kernel_rfl) ?_
    repeat (first | refine x_move (by rfl) ?_ | refine x_as (by rfl) (by rfl) ?_ | refine x_skip (by rfl) ?_ | refine x_fld (by rfl) (by rfl) FldO.h ?_)
    refine x_idx n (by rfl) (by rfl) (by rfl) ElSz.h rfl hn' ?_
    refine w_load (by rfl) (by rfl) (rd_load wt_len AggT.h (r1.at u01) hx0 rfl rfl) ?_
    refine w_alloc (by rfl) (by rfl) ZeroT.h ?_; intro b5 w2 e2 u2 h2
    refine w_store (xs := x.cells) (by rfl) (by rfl) (by rfl) (by rfl) SzT.h (by rfl) (by rfl) h2 (by simp) ?_
    intro w3 u3 h3 _
    refine x_nilw ?_
    replace h3 : Blk w3 b5 40 x.cells := h3
    have u13 : Ext w1 w3 := u2.trans' u3 fun b hb e => by have e' : b = b5 := e; omega
    have l3 := h3.lt
    have s13 := u13.size
    refine swp_fit [(0, .slice (some ⟨p0, o0, none⟩) ls.length c0), (3, so), (4, .int .i64 (n : Nat)), (5, .pointer (some ⟨b5, 0, none⟩))] ⟨rfl, rfl, rfl, rfl, trivial⟩ fun ρ => ?_
    (repeat (first | refine swp_seq ?_ | refine swp_block ?_)); refine swp_region (by kernel_rfl) ?_
    repeat (first | refine x_move (by rfl) ?_ | refine x_as (by rfl) (by rfl) ?_ | refine x_skip (by rfl) ?_ | refine x_fld (by rfl) (by rfl) FldO.h ?_)
    refine w_load (by rfl) (by rfl) (load_one (v := .int .i64 x.m.dec) OneT.h h3 (by rfl)) ?_
    refine x_build (v := .agg [.int .i64 x.m.dec, .slice none 0 0, .slice none 0 0, .slice none 0 0].toArray) (by rfl) (by rfl) (fun _ => by kernel_rfl) ?_
    refine x_build (v := .agg [.int .i64 x.m.dec, .slice none 0 0, .slice none 0 0, .slice none 0 0, .slice none 0 0].toArray) (by rfl) (by rfl) (fun _ => by kernel_rfl) ?_
    refine w_alloc (by rfl) (by rfl) ZeroT.h ?_; intro b6 w4 e4 u4 h4
    refine w_store (xs := [.int .i64 x.m.dec, .slice none 0 0, .slice none 0 0, .slice none 0 0, .slice none 0 0]) (by rfl) (by rfl) (by rfl) (by rfl) SzT.h (by rfl) (by rfl) h4 (by simp) ?_
    intro w5 u5 h5 _
    refine x_nilw ?_
    have s4 := u4.size
    replace h5 : Blk w5 b6 40 [.int .i64 x.m.dec, .slice none 0 0, .slice none 0 0, .slice none 0 0, .slice none 0 0] := h5
    have u35 : Ext w3 w5 := u4.trans' u5 fun b hb e => by have e' : b = b6 := e; omega
    have uu := u13.trans u35
    have h4 := h5
    have h1b := h3.at u35
    have inx : ∀ b, x.In b → b < w1.heap.size := fun b hb => hx.lt hb
    have hxb : ∀ b, x.m.In b → b < w1.heap.size := fun b hb => inx b (.inl hb)
    have rx := hx.at uu
    obtain ⟨rn, rl, rv, lln, lll, llv⟩ := rx.m
    have hs := hx.sm
    have rb := rx.rd
    have hsb := hx.sb
    have l6 := h5.lt
    have bw : w1.heap.size ≤ b5 ∧ b5 < b6 ∧ b6 < w5.heap.size := ⟨by have := u2.size; omega, by omega, l6⟩
    clear h3 h5 s4 l3
    (repeat (first | refine swp_seq ?_ | refine swp_block ?_)); refine swp_region (by kernel_rfl) ?_
    repeat (first | refine x_move (by rfl) ?_ | refine x_as (by rfl) (by rfl) ?_ | refine x_len (by rfl) (by rfl) ElOf.some ?_ | refine x_add (by rfl) (by rfl) (by rfl) (by omega) ?_ | refine x_lss (by rfl) (by rfl) (by rfl) ?_)
    refine x_nilw ?_
    refine swp_fit [(0, .slice (some ⟨p0, o0, none⟩) ls.length c0), (3, so), (4, .int .i64 (n : Nat)), (5, .pointer (some ⟨b5, 0, none⟩)), (6, .pointer (some ⟨b6, 0, none⟩)), (7, .int .i64 ((0 : Nat) : Int))] ⟨rfl, rfl, rfl, rfl, rfl, rfl, trivial⟩ fun ρ => ?_
    (repeat (first | refine swp_seq ?_ | refine swp_block ?_))
    refine swp_loop (fun (i : Nat) σ w' => At σ [(0, .slice (some ⟨p0, o0, none⟩) ls.length c0), (3, so), (4, .int .i64 (n : Nat)), (5, .pointer (some ⟨b5, 0, none⟩)), (6, .pointer (some ⟨b6, 0, none⟩)), (7, .int .i64 (i : Nat))] ∧ i ≤ x.m.names.length ∧ ∃ sv, Blk w' b6 40 [.int .i64 x.m.dec, sv, .slice none 0 0, .slice none 0 0, .slice none 0 0] ∧ Own w' 68 2 sv i (fl Nm.cells (x.m.names.take i)) ∧ (∀ b, isIn sv b → w5.heap.size ≤ b) ∧ Upd (fun b => b = b6) w5 w') (fun i => x.m.names.length - i) 0 ⟨at_ ⟨rfl, rfl, rfl, rfl, rfl, rfl, trivial⟩, by omega, .slice none 0 0, h4, Own.nil _ _ _, fun b h => h.elim, Upd.refl _ _⟩ ?_
    rintro i σ w20 ⟨⟨ρ, rfl⟩, hi, sv0, h4, own0, in0, u20⟩
    have s0 := u20.size
    have rn' := rn.get0 u20 fun b h0 hb e => by have := hxb b (.inl ⟨h0, hb⟩); have e' : b = b6 := e; omega
    replace h1b := h1b.get u20 (by omega)
    obtain ⟨a1, c1, rfl⟩ := own0.slice
    (repeat (first | refine swp_seq ?_ | refine swp_block ?_)); refine swp_region (by kernel_rfl) ?_
    repeat (first | refine x_move (by rfl) ?_ | refine x_as (by rfl) (by rfl) ?_ | refine x_skip (by rfl) ?_ | refine x_fld (by rfl) (by rfl) FldO.h ?_)
    refine w_load (by rfl) (by rfl) (load_one (v := .slice x.m.na x.m.names.length x.m.nc) OneT.h h1b (by rfl)) ?_
    repeat (first | refine x_move (by rfl) ?_ | refine x_as (by rfl) (by rfl) ?_ | refine x_len (by rfl) (by rfl) ElOf.some ?_ | refine x_add (by rfl) (by rfl) (by rfl) (by omega) ?_ | refine x_lss (by rfl) (by rfl) (by rfl) ?_)
    refine x_nilw ?_
    (repeat (first | refine swp_seq ?_ | refine swp_block ?_))
    refine swp_if (by rfl) (fun hend => swp_skip ?_) (fun hend => ?_)
    · have hj1 : i < x.m.names.length := by omega
      obtain ⟨nx, hnx⟩ := nthE hj1
      obtain ⟨p1, o1, d1, he1, -, -⟩ := rn'.pos (by omega)
      simp only [Mt.ns, Value.slice.injEq] at he1
      obtain ⟨ea1, _, rfl⟩ := he1
      have g1 : Blk w20 b5 40 [.int .i64 x.m.dec, .slice (some ⟨p1, o1, none⟩) x.m.names.length x.m.nc, .slice x.m.la x.m.lens.length x.m.lc, .slice x.m.va x.m.vals.length x.m.vc, .slice x.ba x.bs.length x.bc] := by rw [← ea1]; exact h1b
      have r1' := rn'
      rw [Mt.ns, ea1] at r1'
      (repeat (first | with_reducible refine n_then ?_ | with_reducible refine n_block ?_ | with_reducible refine n_jump ?_))
      refine swp_fit [(0, .slice (some ⟨p0, o0, none⟩) ls.length c0), (3, so), (4, .int .i64 (n : Nat)), (5, .pointer (some ⟨b5, 0, none⟩)), (6, .pointer (some ⟨b6, 0, none⟩)), (7, .int .i64 (i : Nat))] ⟨rfl, rfl, rfl, rfl, rfl, rfl, trivial⟩ fun ρ => ?_
      (repeat (first | refine swp_seq ?_ | refine swp_block ?_)); refine swp_draw (Ext w20) [1009] Mixed.h (by kernel_rfl) (by kernel_rfl) (ext_drew w20) ?_
      repeat (first | refine x_move (by rfl) ?_ | refine x_as (by rfl) (by rfl) ?_ | refine x_skip (by rfl) ?_ | refine x_fld (by rfl) (by rfl) FldO.h ?_)
      refine q_load (by rfl) (by rfl) (by rfl) (fun w' hw' => load_one OneT.h (h4.at hw') (by rfl)) ?_
      repeat (first | refine x_move (by rfl) ?_ | refine x_as (by rfl) (by rfl) ?_ | refine x_skip (by rfl) ?_ | refine x_fld (by rfl) (by rfl) FldO.h ?_)
      refine q_load (by rfl) (by rfl) (by rfl) (fun w' hw' => load_one OneT.h (g1.at hw') (by rfl)) ?_
      repeat (first | refine x_move (by rfl) ?_ | refine x_as (by rfl) (by rfl) ?_ | refine x_skip (by rfl) ?_ | refine x_fld (by rfl) (by rfl) FldO.h ?_)
      refine x_idx i (by rfl) (by rfl) (by rfl) ElSz.h rfl hj1 ?_
      refine q_load (by rfl) (by rfl) (by rfl) (fun w' hw' => rd_load nm_len' AggT.h (r1'.at hw') hnx rfl rfl) ?_
      refine f_bslice (e := 68) (cs := nx.cells) (by rfl) (by rfl) (by rfl) (by kernel_rfl) (fun _ _ h u => Upd.trans h u) ?_
      intro v1 cb v2 q1 f2 q2 k2
      refine x_fix (by rfl) (by rfl) (by rfl) fun v3 q3 => ?_
      have q0 := (q1.trans q2).trans q3
      refine w_append (more := []) (news := nx.cells) (by rfl) (by rfl) (by rfl) (by rfl) SlC.h (own0.at q0) (by rw [List.append_nil]; exact k2.at q3) (by rfl) (by rfl) (by omega) ((room_of hs.n (by omega)).le (by omega)) ?_
      intro sv' v4 own' q4 in'
      rw [show nx.cells = Nm.cells nx from rfl, take_fl hnx] at own'
      obtain ⟨as', cs', rfl⟩ := own'.slice
      repeat (first | refine x_move (by rfl) ?_ | refine x_as (by rfl) (by rfl) ?_ | refine x_skip (by rfl) ?_ | refine x_fld (by rfl) (by rfl) FldO.h ?_)
      have q04 := q0.size
      refine w_store (xs := [.slice as' (i + 1) cs']) (by rfl) (by rfl) (by rfl) (by rfl) SzT.h (by rfl) (by rfl) ((h4.at q0).get q4 fun h => by have := in0 b6 h; omega) (by simp) ?_
      intro v5 q5 h5 _
      refine x_nilw ?_
      have fr' : ∀ b, isIn (.slice as' (i + 1) cs') b → w5.heap.size ≤ b := fun b hb => by
        rcases in' b hb with h | h
        · exact in0 b h
        · omega
      replace h5 : Blk v5 b6 40 [.int .i64 x.m.dec, .slice as' (i + 1) cs', .slice none 0 0, .slice none 0 0, .slice none 0 0] := h5
      (repeat (first | with_reducible refine n_then ?_ | with_reducible refine n_block ?_ | with_reducible refine n_jump ?_))
      (repeat (first | refine swp_seq ?_ | refine swp_block ?_)); refine swp_region (by kernel_rfl) ?_
      repeat (first | refine x_move (by rfl) ?_ | refine x_as (by rfl) (by rfl) ?_ | refine x_len (by rfl) (by rfl) ElOf.some ?_ | refine x_add (by rfl) (by rfl) (by rfl) (by omega) ?_ | refine x_lss (by rfl) (by rfl) (by rfl) ?_)
      refine x_nilw ?_
      exact ⟨i + 1, ⟨at_ ⟨rfl, rfl, rfl, rfl, rfl, rfl, trivial⟩, hj1, .slice as' (i + 1) cs', h5, own'.get q5 fun b hb e => by have := fr' b hb; have e' : b = b6 := e; omega, fr', ((u20.ext q0).trans' q4 fun b hb h => by have := in0 b h; omega).trans' q5 fun b _ h => h⟩, by omega⟩
    · refine swp_exit ?_; (repeat (first | with_reducible refine e_then ?_ | with_reducible refine e_jump ?_)); refine e_block ?_; (repeat (first | with_reducible refine n_then ?_ | with_reducible refine n_block ?_ | with_reducible refine n_jump ?_))
      have hfin : i = x.m.names.length := by omega
      subst hfin
      rw [List.take_length] at own0
      have lt20 : ∀ b, isIn (.slice a1 x.m.names.length c1) b → b < w20.heap.size := fun b hb => own0.lt hb
      refine swp_fit [(0, .slice (some ⟨p0, o0, none⟩) ls.length c0), (3, so), (4, .int .i64 (n : Nat)), (5, .pointer (some ⟨b5, 0, none⟩)), (6, .pointer (some ⟨b6, 0, none⟩))] ⟨rfl, rfl, rfl, rfl, rfl, trivial⟩ fun ρ => ?_
      replace rl := rl.get0 u20 fun b h0 hb e => by have := hxb b (.inr (.inl ⟨h0, hb⟩)); have e' : b = b6 := e; omega
      replace rv := rv.get0 u20 fun b h0 hb e => by have := hxb b (.inr (.inr ⟨h0, hb⟩)); have e' : b = b6 := e; omega
      replace rb := rb.get0 u20 fun b h0 hb e => by have := inx b (.inr (.inl ⟨h0, hb⟩)); have e' : b = b6 := e; omega
      replace uu : Ext w1 w20 := uu.trans' u20 fun b hb e => by have e' : b = b6 := e; omega
      (repeat (first | refine swp_seq ?_ | refine swp_block ?_)); refine swp_region (by kernel_rfl) ?_
      repeat (first | refine x_move (by rfl) ?_ | refine x_as (by rfl) (by rfl) ?_ | refine x_len (by rfl) (by rfl) ElOf.some ?_ | refine x_add (by rfl) (by rfl) (by rfl) (by omega) ?_ | refine x_lss (by rfl) (by rfl) (by rfl) ?_)
      refine x_nilw ?_
      refine swp_fit [(0, .slice (some ⟨p0, o0, none⟩) ls.length c0), (3, so), (4, .int .i64 (n : Nat)), (5, .pointer (some ⟨b5, 0, none⟩)), (6, .pointer (some ⟨b6, 0, none⟩)), (8, .int .i64 ((0 : Nat) : Int))] ⟨rfl, rfl, rfl, rfl, rfl, rfl, trivial⟩ fun ρ => ?_
      (repeat (first | refine swp_seq ?_ | refine swp_block ?_))
      refine swp_loop (fun (i : Nat) σ w' => At σ [(0, .slice (some ⟨p0, o0, none⟩) ls.length c0), (3, so), (4, .int .i64 (n : Nat)), (5, .pointer (some ⟨b5, 0, none⟩)), (6, .pointer (some ⟨b6, 0, none⟩)), (8, .int .i64 (i : Nat))] ∧ i ≤ x.m.lens.length ∧ ∃ sv, Blk w' b6 40 [.int .i64 x.m.dec, .slice a1 x.m.names.length c1, sv, .slice none 0 0, .slice none 0 0] ∧ Own w' 3 1 sv i (fl encN (x.m.lens.take i)) ∧ (∀ b, isIn sv b → w20.heap.size ≤ b) ∧ Upd (fun b => b = b6) w20 w') (fun i => x.m.lens.length - i) 0 ⟨at_ ⟨rfl, rfl, rfl, rfl, rfl, rfl, trivial⟩, by omega, .slice none 0 0, h4, Own.nil _ _ _, fun b h => h.elim, Upd.refl _ _⟩ ?_
      rintro i σ w21 ⟨⟨ρ, rfl⟩, hi, sv1, h4, own1, in1, u21⟩
      have s1 := u21.size
      have rl' := rl.get0 u21 fun b h0 hb e => by have := hxb b (.inr (.inl ⟨h0, hb⟩)); have e' : b = b6 := e; omega
      replace h1b := h1b.get u21 (by omega)
      obtain ⟨a2, c2, rfl⟩ := own1.slice
      (repeat (first | refine swp_seq ?_ | refine swp_block ?_)); refine swp_region (by kernel_rfl) ?_
      repeat (first | refine x_move (by rfl) ?_ | refine x_as (by rfl) (by rfl) ?_ | refine x_skip (by rfl) ?_ | refine x_fld (by rfl) (by rfl) FldO.h ?_)
      refine w_load (by rfl) (by rfl) (load_one (v := .slice x.m.la x.m.lens.length x.m.lc) OneT.h h1b (by rfl)) ?_
      repeat (first | refine x_move (by rfl) ?_ | refine x_as (by rfl) (by rfl) ?_ | refine x_len (by rfl) (by rfl) ElOf.some ?_ | refine x_add (by rfl) (by rfl) (by rfl) (by omega) ?_ | refine x_lss (by rfl) (by rfl) (by rfl) ?_)
      refine x_nilw ?_
      (repeat (first | refine swp_seq ?_ | refine swp_block ?_))
      refine swp_if (by rfl) (fun hend => swp_skip ?_) (fun hend => ?_)
      · have hj1 : i < x.m.lens.length := by omega
        obtain ⟨nx, hnx⟩ := nthE hj1
        obtain ⟨p1, o1, d1, he1, -, -⟩ := rl'.pos (by omega)
        simp only [Mt.ls, Value.slice.injEq] at he1
        obtain ⟨ea1, _, rfl⟩ := he1
        have g1 : Blk w21 b5 40 [.int .i64 x.m.dec, .slice x.m.na x.m.names.length x.m.nc, .slice (some ⟨p1, o1, none⟩) x.m.lens.length x.m.lc, .slice x.m.va x.m.vals.length x.m.vc, .slice x.ba x.bs.length x.bc] := by rw [← ea1]; exact h1b
        have r1' := rl'
        rw [Mt.ls, ea1] at r1'
        (repeat (first | with_reducible refine n_then ?_ | with_reducible refine n_block ?_ | with_reducible refine n_jump ?_))
        refine swp_fit [(0, .slice (some ⟨p0, o0, none⟩) ls.length c0), (3, so), (4, .int .i64 (n : Nat)), (5, .pointer (some ⟨b5, 0, none⟩)), (6, .pointer (some ⟨b6, 0, none⟩)), (8, .int .i64 (i : Nat))] ⟨rfl, rfl, rfl, rfl, rfl, rfl, trivial⟩ fun ρ => ?_
        (repeat (first | refine swp_seq ?_ | refine swp_block ?_)); refine swp_draw (Ext w21) [1009] Mixed.h (by kernel_rfl) (by kernel_rfl) (ext_drew w21) ?_
        repeat (first | refine x_move (by rfl) ?_ | refine x_as (by rfl) (by rfl) ?_ | refine x_skip (by rfl) ?_ | refine x_fld (by rfl) (by rfl) FldO.h ?_)
        refine q_load (by rfl) (by rfl) (by rfl) (fun w' hw' => load_one OneT.h (h4.at hw') (by rfl)) ?_
        repeat (first | refine x_move (by rfl) ?_ | refine x_as (by rfl) (by rfl) ?_ | refine x_skip (by rfl) ?_ | refine x_fld (by rfl) (by rfl) FldO.h ?_)
        refine q_load (by rfl) (by rfl) (by rfl) (fun w' hw' => load_one OneT.h (g1.at hw') (by rfl)) ?_
        repeat (first | refine x_move (by rfl) ?_ | refine x_as (by rfl) (by rfl) ?_ | refine x_skip (by rfl) ?_ | refine x_fld (by rfl) (by rfl) FldO.h ?_)
        refine x_idx i (by rfl) (by rfl) (by rfl) ElSz.h rfl hj1 ?_
        refine q_load (by rfl) (by rfl) (by rfl) (fun w' hw' => load_one_cell OneT.h (rd_cell (v := .int .i64 nx) (j := 0) encN_len (r1'.at hw') hnx rfl rfl rfl)) ?_
        refine f_bslice (e := 3) (cs := [.int .i64 nx]) (by rfl) (by rfl) (by rfl) (by kernel_rfl) (fun _ _ h u => Upd.trans h u) ?_
        intro v1 cb v2 q1 f2 q2 k2
        refine x_fix (by rfl) (by rfl) (by rfl) fun v3 q3 => ?_
        have q0 := (q1.trans q2).trans q3
        refine w_append (more := []) (news := [.int .i64 nx]) (by rfl) (by rfl) (by rfl) (by rfl) SlC.h (own1.at q0) (by rw [List.append_nil]; exact k2.at q3) (by rfl) (by rfl) (by omega) ((room_of hs.l (by omega)).le (by omega)) ?_
        intro sv' v4 own' q4 in'
        rw [show [.int .i64 nx] = encN nx from rfl, take_fl hnx] at own'
        obtain ⟨as', cs', rfl⟩ := own'.slice
        repeat (first | refine x_move (by rfl) ?_ | refine x_as (by rfl) (by rfl) ?_ | refine x_skip (by rfl) ?_ | refine x_fld (by rfl) (by rfl) FldO.h ?_)
        have q04 := q0.size
        refine w_store (xs := [.slice as' (i + 1) cs']) (by rfl) (by rfl) (by rfl) (by rfl) SzT.h (by rfl) (by rfl) ((h4.at q0).get q4 fun h => by have := in1 b6 h; omega) (by simp) ?_
        intro v5 q5 h5 _
        refine x_nilw ?_
        have fr' : ∀ b, isIn (.slice as' (i + 1) cs') b → w20.heap.size ≤ b := fun b hb => by
          rcases in' b hb with h | h
          · exact in1 b h
          · omega
        replace h5 : Blk v5 b6 40 [.int .i64 x.m.dec, .slice a1 x.m.names.length c1, .slice as' (i + 1) cs', .slice none 0 0, .slice none 0 0] := h5
        (repeat (first | with_reducible refine n_then ?_ | with_reducible refine n_block ?_ | with_reducible refine n_jump ?_))
        (repeat (first | refine swp_seq ?_ | refine swp_block ?_)); refine swp_region (by kernel_rfl) ?_
        repeat (first | refine x_move (by rfl) ?_ | refine x_as (by rfl) (by rfl) ?_ | refine x_len (by rfl) (by rfl) ElOf.some ?_ | refine x_add (by rfl) (by rfl) (by rfl) (by omega) ?_ | refine x_lss (by rfl) (by rfl) (by rfl) ?_)
        refine x_nilw ?_
        exact ⟨i + 1, ⟨at_ ⟨rfl, rfl, rfl, rfl, rfl, rfl, trivial⟩, hj1, .slice as' (i + 1) cs', h5, own'.get q5 fun b hb e => by have := fr' b hb; have e' : b = b6 := e; omega, fr', ((u21.ext q0).trans' q4 fun b hb h => by have := in1 b h; omega).trans' q5 fun b _ h => h⟩, by omega⟩
      · refine swp_exit ?_; (repeat (first | with_reducible refine e_then ?_ | with_reducible refine e_jump ?_)); refine e_block ?_; (repeat (first | with_reducible refine n_then ?_ | with_reducible refine n_block ?_ | with_reducible refine n_jump ?_))
        have hfin : i = x.m.lens.length := by omega
        subst hfin
        rw [List.take_length] at own1
        have lt21 : ∀ b, isIn (.slice a2 x.m.lens.length c2) b → b < w21.heap.size := fun b hb => own1.lt hb
        refine swp_fit [(0, .slice (some ⟨p0, o0, none⟩) ls.length c0), (3, so), (4, .int .i64 (n : Nat)), (5, .pointer (some ⟨b5, 0, none⟩)), (6, .pointer (some ⟨b6, 0, none⟩))] ⟨rfl, rfl, rfl, rfl, rfl, trivial⟩ fun ρ => ?_
        replace rv := rv.get0 u21 fun b h0 hb e => by have := hxb b (.inr (.inr ⟨h0, hb⟩)); have e' : b = b6 := e; omega
        replace rb := rb.get0 u21 fun b h0 hb e => by have := inx b (.inr (.inl ⟨h0, hb⟩)); have e' : b = b6 := e; omega
        replace own0 := own0.get u21 fun b hb e => by have := in0 b hb; have e' : b = b6 := e; omega
        replace uu : Ext w1 w21 := uu.trans' u21 fun b hb e => by have e' : b = b6 := e; omega
        (repeat (first | refine swp_seq ?_ | refine swp_block ?_)); refine swp_region (by kernel_rfl) ?_
        repeat (first | refine x_move (by rfl) ?_ | refine x_as (by rfl) (by rfl) ?_ | refine x_len (by rfl) (by rfl) ElOf.some ?_ | refine x_add (by rfl) (by rfl) (by rfl) (by omega) ?_ | refine x_lss (by rfl) (by rfl) (by rfl) ?_)
        refine x_nilw ?_
        refine swp_fit [(0, .slice (some ⟨p0, o0, none⟩) ls.length c0), (3, so), (4, .int .i64 (n : Nat)), (5, .pointer (some ⟨b5, 0, none⟩)), (6, .pointer (some ⟨b6, 0, none⟩)), (9, .int .i64 ((0 : Nat) : Int))] ⟨rfl, rfl, rfl, rfl, rfl, rfl, trivial⟩ fun ρ => ?_
        (repeat (first | refine swp_seq ?_ | refine swp_block ?_))
        refine swp_loop (fun (i : Nat) σ w' => At σ [(0, .slice (some ⟨p0, o0, none⟩) ls.length c0), (3, so), (4, .int .i64 (n : Nat)), (5, .pointer (some ⟨b5, 0, none⟩)), (6, .pointer (some ⟨b6, 0, none⟩)), (9, .int .i64 (i : Nat))] ∧ i ≤ x.m.vals.length ∧ ∃ sv, Blk w' b6 40 [.int .i64 x.m.dec, .slice a1 x.m.names.length c1, .slice a2 x.m.lens.length c2, sv, .slice none 0 0] ∧ Own w' 70 2 sv i (fl Vl.cells (x.m.vals.take i)) ∧ (∀ b, isIn sv b → w21.heap.size ≤ b) ∧ Upd (fun b => b = b6) w21 w') (fun i => x.m.vals.length - i) 0 ⟨at_ ⟨rfl, rfl, rfl, rfl, rfl, rfl, trivial⟩, by omega, .slice none 0 0, h4, Own.nil _ _ _, fun b h => h.elim, Upd.refl _ _⟩ ?_
        rintro i σ w22 ⟨⟨ρ, rfl⟩, hi, sv2, h4, own2, in2, u22⟩
        have s2 := u22.size
        have rv' := rv.get0 u22 fun b h0 hb e => by have := hxb b (.inr (.inr ⟨h0, hb⟩)); have e' : b = b6 := e; omega
        replace h1b := h1b.get u22 (by omega)
        obtain ⟨a3, c3, rfl⟩ := own2.slice
        (repeat (first | refine swp_seq ?_ | refine swp_block ?_)); refine swp_region (by kernel_rfl) ?_
        repeat (first | refine x_move (by rfl) ?_ | refine x_as (by rfl) (by rfl) ?_ | refine x_skip (by rfl) ?_ | refine x_fld (by rfl) (by rfl) FldO.h ?_)
        refine w_load (by rfl) (by rfl) (load_one (v := .slice x.m.va x.m.vals.length x.m.vc) OneT.h h1b (by rfl)) ?_
        repeat (first | refine x_move (by rfl) ?_ | refine x_as (by rfl) (by rfl) ?_ | refine x_len (by rfl) (by rfl) ElOf.some ?_ | refine x_add (by rfl) (by rfl) (by rfl) (by omega) ?_ | refine x_lss (by rfl) (by rfl) (by rfl) ?_)
        refine x_nilw ?_
        (repeat (first | refine swp_seq ?_ | refine swp_block ?_))
        refine swp_if (by rfl) (fun hend => swp_skip ?_) (fun hend => ?_)
        · have hj1 : i < x.m.vals.length := by omega
          obtain ⟨nx, hnx⟩ := nthE hj1
          obtain ⟨p1, o1, d1, he1, -, -⟩ := rv'.pos (by omega)
          simp only [Mt.vs, Value.slice.injEq] at he1
          obtain ⟨ea1, _, rfl⟩ := he1
          have g1 : Blk w22 b5 40 [.int .i64 x.m.dec, .slice x.m.na x.m.names.length x.m.nc, .slice x.m.la x.m.lens.length x.m.lc, .slice (some ⟨p1, o1, none⟩) x.m.vals.length x.m.vc, .slice x.ba x.bs.length x.bc] := by rw [← ea1]; exact h1b
          have r1' := rv'
          rw [Mt.vs, ea1] at r1'
          (repeat (first | with_reducible refine n_then ?_ | with_reducible refine n_block ?_ | with_reducible refine n_jump ?_))
          refine swp_fit [(0, .slice (some ⟨p0, o0, none⟩) ls.length c0), (3, so), (4, .int .i64 (n : Nat)), (5, .pointer (some ⟨b5, 0, none⟩)), (6, .pointer (some ⟨b6, 0, none⟩)), (9, .int .i64 (i : Nat))] ⟨rfl, rfl, rfl, rfl, rfl, rfl, trivial⟩ fun ρ => ?_
          (repeat (first | refine swp_seq ?_ | refine swp_block ?_)); refine swp_draw (Ext w22) [1009] Mixed.h (by kernel_rfl) (by kernel_rfl) (ext_drew w22) ?_
          repeat (first | refine x_move (by rfl) ?_ | refine x_as (by rfl) (by rfl) ?_ | refine x_skip (by rfl) ?_ | refine x_fld (by rfl) (by rfl) FldO.h ?_)
          refine q_load (by rfl) (by rfl) (by rfl) (fun w' hw' => load_one OneT.h (h4.at hw') (by rfl)) ?_
          repeat (first | refine x_move (by rfl) ?_ | refine x_as (by rfl) (by rfl) ?_ | refine x_skip (by rfl) ?_ | refine x_fld (by rfl) (by rfl) FldO.h ?_)
          refine q_load (by rfl) (by rfl) (by rfl) (fun w' hw' => load_one OneT.h (g1.at hw') (by rfl)) ?_
          repeat (first | refine x_move (by rfl) ?_ | refine x_as (by rfl) (by rfl) ?_ | refine x_skip (by rfl) ?_ | refine x_fld (by rfl) (by rfl) FldO.h ?_)
          refine x_idx i (by rfl) (by rfl) (by rfl) ElSz.h rfl hj1 ?_
          refine q_load (by rfl) (by rfl) (by rfl) (fun w' hw' => rd_load vl_len AggT.h (r1'.at hw') hnx rfl rfl) ?_
          refine f_bslice (e := 70) (cs := nx.cells) (by rfl) (by rfl) (by rfl) (by kernel_rfl) (fun _ _ h u => Upd.trans h u) ?_
          intro v1 cb v2 q1 f2 q2 k2
          refine x_fix (by rfl) (by rfl) (by rfl) fun v3 q3 => ?_
          have q0 := (q1.trans q2).trans q3
          refine w_append (more := []) (news := nx.cells) (by rfl) (by rfl) (by rfl) (by rfl) SlC.h (own2.at q0) (by rw [List.append_nil]; exact k2.at q3) (by rfl) (by rfl) (by omega) ((room_of hs.v (by omega)).le (by omega)) ?_
          intro sv' v4 own' q4 in'
          rw [show nx.cells = Vl.cells nx from rfl, take_fl hnx] at own'
          obtain ⟨as', cs', rfl⟩ := own'.slice
          repeat (first | refine x_move (by rfl) ?_ | refine x_as (by rfl) (by rfl) ?_ | refine x_skip (by rfl) ?_ | refine x_fld (by rfl) (by rfl) FldO.h ?_)
          have q04 := q0.size
          refine w_store (xs := [.slice as' (i + 1) cs']) (by rfl) (by rfl) (by rfl) (by rfl) SzT.h (by rfl) (by rfl) ((h4.at q0).get q4 fun h => by have := in2 b6 h; omega) (by simp) ?_
          intro v5 q5 h5 _
          refine x_nilw ?_
          have fr' : ∀ b, isIn (.slice as' (i + 1) cs') b → w21.heap.size ≤ b := fun b hb => by
            rcases in' b hb with h | h
            · exact in2 b h
            · omega
          replace h5 : Blk v5 b6 40 [.int .i64 x.m.dec, .slice a1 x.m.names.length c1, .slice a2 x.m.lens.length c2, .slice as' (i + 1) cs', .slice none 0 0] := h5
          (repeat (first | with_reducible refine n_then ?_ | with_reducible refine n_block ?_ | with_reducible refine n_jump ?_))
          (repeat (first | refine swp_seq ?_ | refine swp_block ?_)); refine swp_region (by kernel_rfl) ?_
          repeat (first | refine x_move (by rfl) ?_ | refine x_as (by rfl) (by rfl) ?_ | refine x_len (by rfl) (by rfl) ElOf.some ?_ | refine x_add (by rfl) (by rfl) (by rfl) (by omega) ?_ | refine x_lss (by rfl) (by rfl) (by rfl) ?_)
          refine x_nilw ?_
          exact ⟨i + 1, ⟨at_ ⟨rfl, rfl, rfl, rfl, rfl, rfl, trivial⟩, hj1, .slice as' (i + 1) cs', h5, own'.get q5 fun b hb e => by have := fr' b hb; have e' : b = b6 := e; omega, fr', ((u22.ext q0).trans' q4 fun b hb h => by have := in2 b h; omega).trans' q5 fun b _ h => h⟩, by omega⟩
        · refine swp_exit ?_; (repeat (first | with_reducible refine e_then ?_ | with_reducible refine e_jump ?_)); refine e_block ?_; (repeat (first | with_reducible refine n_then ?_ | with_reducible refine n_block ?_ | with_reducible refine n_jump ?_))
          have hfin : i = x.m.vals.length := by omega
          subst hfin
          rw [List.take_length] at own2
          have lt22 : ∀ b, isIn (.slice a3 x.m.vals.length c3) b → b < w22.heap.size := fun b hb => own2.lt hb
          refine swp_fit [(0, .slice (some ⟨p0, o0, none⟩) ls.length c0), (3, so), (4, .int .i64 (n : Nat)), (5, .pointer (some ⟨b5, 0, none⟩)), (6, .pointer (some ⟨b6, 0, none⟩))] ⟨rfl, rfl, rfl, rfl, rfl, trivial⟩ fun ρ => ?_
          replace rb := rb.get0 u22 fun b h0 hb e => by have := inx b (.inr (.inl ⟨h0, hb⟩)); have e' : b = b6 := e; omega
          replace own0 := own0.get u22 fun b hb e => by have := in0 b hb; have e' : b = b6 := e; omega
          replace own1 := own1.get u22 fun b hb e => by have := in1 b hb; have e' : b = b6 := e; omega
          replace uu : Ext w1 w22 := uu.trans' u22 fun b hb e => by have e' : b = b6 := e; omega
          -- what is bound
          (repeat (first | refine swp_seq ?_ | refine swp_block ?_)); refine swp_region (by kernel_rfl) ?_
          repeat (first | refine x_move (by rfl) ?_ | refine x_as (by rfl) (by rfl) ?_ | refine x_len (by rfl) (by rfl) ElOf.some ?_ | refine x_add (by rfl) (by rfl) (by rfl) (by omega) ?_ | refine x_lss (by rfl) (by rfl) (by rfl) ?_)
          refine x_nilw ?_
          refine swp_fit [(0, .slice (some ⟨p0, o0, none⟩) ls.length c0), (3, so), (4, .int .i64 (n : Nat)), (5, .pointer (some ⟨b5, 0, none⟩)), (6, .pointer (some ⟨b6, 0, none⟩)), (10, .int .i64 ((0 : Nat) : Int))] ⟨rfl, rfl, rfl, rfl, rfl, rfl, trivial⟩ fun ρ => ?_
          (repeat (first | refine swp_seq ?_ | refine swp_block ?_))
          refine swp_loop (fun (i : Nat) σ w6 => ∃ sb els, At σ [(0, .slice (some ⟨p0, o0, none⟩) ls.length c0), (3, so), (4, .int .i64 (n : Nat)), (5, .pointer (some ⟨b5, 0, none⟩)), (6, .pointer (some ⟨b6, 0, none⟩)), (10, .int .i64 (i : Nat))] ∧ i ≤ x.bs.length ∧ Blk w6 b6 40 [.int .i64 x.m.dec, .slice a1 x.m.names.length c1, .slice a2 x.m.lens.length c2, .slice a3 x.m.vals.length c3, sb] ∧ Lsp tEo 86 w22 w6 sb els ∧ els.map El.evs = (x.bs.take i).map El.evs ∧ Upd (fun b => b = b6) w22 w6) (fun i => x.bs.length - i) 0 ⟨.slice none 0 0, [], at_ ⟨rfl, rfl, rfl, rfl, rfl, rfl, trivial⟩, by omega, h4, Lsp.nil _ _ _ _, by simp, Upd.refl _ _⟩ ?_
          rintro i σ w6 ⟨sb, els, ⟨ρ, rfl⟩, hi, h6, hL, hev, u6⟩
          have hle : els.length = i := by have := congrArg List.length hev; simp at this; omega
          have s6 := u6.size
          have rb6 := rb.get0 u6 fun b h0 hb e => by have := inx b (.inr (.inl ⟨h0, hb⟩)); have e' : b = b6 := e; omega
          have h16 := h1b.get u6 (by omega)
          have uu6 : Ext w1 w6 := uu.trans' u6 fun b hb e => by have e' : b = b6 := e; omega
          obtain ⟨asb, csb, rfl⟩ := hL.own.slice
          (repeat (first | refine swp_seq ?_ | refine swp_block ?_)); refine swp_region (by kernel_rfl) ?_
          repeat (first | refine x_move (by rfl) ?_ | refine x_as (by rfl) (by rfl) ?_ | refine x_skip (by rfl) ?_ | refine x_fld (by rfl) (by rfl) FldO.h ?_)
          refine w_load (by rfl) (by rfl) (load_one (v := .slice x.ba x.bs.length x.bc) OneT.h h16 (by rfl)) ?_
          repeat (first | refine x_move (by rfl) ?_ | refine x_as (by rfl) (by rfl) ?_ | refine x_len (by rfl) (by rfl) ElOf.some ?_ | refine x_add (by rfl) (by rfl) (by rfl) (by omega) ?_ | refine x_lss (by rfl) (by rfl) (by rfl) ?_)
          refine x_nilw ?_
          (repeat (first | refine swp_seq ?_ | refine swp_block ?_))
          refine swp_if (by rfl) (fun h0 => swp_skip ?_) (fun h0 => ?_)
          · have hi' : i < x.bs.length := by omega
            obtain ⟨e, he⟩ := nthE hi'
            have hem := List.mem_of_getElem? he
            have eR := hx.each e hem
            have eR6 : e.Rdy w6 := Thing.at (T := tEl) eR uu6
            have hesm := eR.sm
            obtain ⟨p1, o1, d1, he1, -, -⟩ := rb.pos (by omega)
            simp only [Value.slice.injEq] at he1
            obtain ⟨ea1, _, rfl⟩ := he1
            rw [ea1] at rb6
            have g16 : Blk w6 b5 40 [.int .i64 x.m.dec, .slice x.m.na x.m.names.length x.m.nc, .slice x.m.la x.m.lens.length x.m.lc, .slice x.m.va x.m.vals.length x.m.vc, .slice (some ⟨p1, o1, none⟩) x.bs.length x.bc] := by rw [← ea1]; exact h16
            (repeat (first | with_reducible refine n_then ?_ | with_reducible refine n_block ?_ | with_reducible refine n_jump ?_))
            (repeat (first | refine swp_seq ?_ | refine swp_block ?_)); refine swp_region (by kernel_rfl) ?_
            repeat (first | refine x_move (by rfl) ?_ | refine x_as (by rfl) (by rfl) ?_ | refine x_skip (by rfl) ?_ | refine x_fld (by rfl) (by rfl) FldO.h ?_)
            refine x_nilw ?_
            refine swp_fit [(0, .slice (some ⟨p0, o0, none⟩) ls.length c0), (3, so), (4, .int .i64 (n : Nat)), (5, .pointer (some ⟨b5, 0, none⟩)), (6, .pointer (some ⟨b6, 0, none⟩)), (10, .int .i64 (i : Nat)), (11, .slice none 0 0)] ⟨rfl, rfl, rfl, rfl, rfl, rfl, rfl, trivial⟩ fun ρ => ?_
            (repeat (first | refine swp_seq ?_ | refine swp_block ?_)); refine swp_region (by kernel_rfl) ?_
            repeat (first | refine x_move (by rfl) ?_ | refine x_as (by rfl) (by rfl) ?_ | refine x_skip (by rfl) ?_ | refine x_fld (by rfl) (by rfl) FldO.h ?_)
            refine x_nilw ?_
            refine n_then ?_
            refine PEv.swp_cutQ (fun σ w7 => ∃ se, At σ [(0, .slice (some ⟨p0, o0, none⟩) ls.length c0), (3, so), (4, .int .i64 (n : Nat)), (5, .pointer (some ⟨b5, 0, none⟩)), (6, .pointer (some ⟨b6, 0, none⟩)), (10, .int .i64 (i : Nat)), (11, se)] ∧ Own w7 89 11 se e.evs.length (fl Ev.cells e.evs) ∧ (∀ b, isIn se b → w6.heap.size ≤ b) ∧ Ext w6 w7) ?_ ?_
            · (repeat (first | refine swp_seq ?_ | refine swp_block ?_))
              refine swp_loop (fun (j : Nat) σ w7 => ∃ se, At σ [(0, .slice (some ⟨p0, o0, none⟩) ls.length c0), (3, so), (4, .int .i64 (n : Nat)), (5, .pointer (some ⟨b5, 0, none⟩)), (6, .pointer (some ⟨b6, 0, none⟩)), (10, .int .i64 (i : Nat)), (11, se), (12, .int .i64 (j : Nat))] ∧ j ≤ e.evs.length ∧ Own w7 89 11 se j (fl Ev.cells (e.evs.take j)) ∧ (∀ b, isIn se b → w6.heap.size ≤ b) ∧ Ext w6 w7) (fun j => e.evs.length - j) 0 ⟨.slice none 0 0, at_ ⟨rfl, rfl, rfl, rfl, rfl, rfl, rfl, rfl, trivial⟩, by omega, Own.nil _ _ _, fun b h => h.elim, Upd.refl _ _⟩ ?_
              rintro j σ w7 ⟨se, ⟨ρ, rfl⟩, hj, hse, hsb7, u7⟩
              have g17 := g16.at u7
              have rb7 := rb6.at u7
              have eR7 := eR6.rd.at u7
              (repeat (first | refine swp_seq ?_ | refine swp_block ?_)); refine swp_region (by kernel_rfl) ?_
              repeat (first | refine x_move (by rfl) ?_ | refine x_as (by rfl) (by rfl) ?_ | refine x_skip (by rfl) ?_ | refine x_fld (by rfl) (by rfl) FldO.h ?_)
              refine w_load (by rfl) (by rfl) (load_one OneT.h g17 (by rfl)) ?_
              repeat (first | refine x_move (by rfl) ?_ | refine x_as (by rfl) (by rfl) ?_ | refine x_skip (by rfl) ?_ | refine x_fld (by rfl) (by rfl) FldO.h ?_)
              refine x_idx i (by rfl) (by rfl) (by rfl) ElSz.h rfl hi' ?_
              refine w_load (by rfl) (by rfl) (load_one_cell OneT.h (rd_cell (v := .slice e.a e.evs.length e.c) (j := 0) el_len rb7 he rfl rfl rfl)) ?_
              repeat (first | refine x_move (by rfl) ?_ | refine x_as (by rfl) (by rfl) ?_ | refine x_len (by rfl) (by rfl) ElOf.some ?_ | refine x_add (by rfl) (by rfl) (by rfl) (by omega) ?_ | refine x_lss (by rfl) (by rfl) (by rfl) ?_)
              refine x_nilw ?_
              (repeat (first | refine swp_seq ?_ | refine swp_block ?_))
              refine swp_if (by rfl) (fun h1' => swp_skip ?_) (fun h1' => ?_)
              · have hj' : j < e.evs.length := by omega
                obtain ⟨nx, hnx⟩ := nthE hj'
                obtain ⟨p2, o2, d2, he2, -, -⟩ := eR7.pos (by omega)
                simp only [Value.slice.injEq] at he2
                obtain ⟨ea2, _, rfl⟩ := he2
                rw [ea2] at eR7
                (repeat (first | with_reducible refine n_then ?_ | with_reducible refine n_block ?_ | with_reducible refine n_jump ?_))
                refine swp_fit [(0, .slice (some ⟨p0, o0, none⟩) ls.length c0), (3, so), (4, .int .i64 (n : Nat)), (5, .pointer (some ⟨b5, 0, none⟩)), (6, .pointer (some ⟨b6, 0, none⟩)), (10, .int .i64 (i : Nat)), (11, se), (12, .int .i64 (j : Nat))] ⟨rfl, rfl, rfl, rfl, rfl, rfl, rfl, rfl, trivial⟩ fun ρ => ?_
                (repeat (first | refine swp_seq ?_ | refine swp_block ?_)); refine swp_region (by kernel_rfl) ?_
                repeat (first | refine x_move (by rfl) ?_ | refine x_as (by rfl) (by rfl) ?_ | refine x_skip (by rfl) ?_ | refine x_fld (by rfl) (by rfl) FldO.h ?_)
                refine w_load (by rfl) (by rfl) (load_one OneT.h g17 (by rfl)) ?_
                repeat (first | refine x_move (by rfl) ?_ | refine x_as (by rfl) (by rfl) ?_ | refine x_skip (by rfl) ?_ | refine x_fld (by rfl) (by rfl) FldO.h ?_)
                refine x_idx i (by rfl) (by rfl) (by rfl) ElSz.h rfl hi' ?_
                refine w_load (by rfl) (by rfl) (load_one_cell OneT.h (rd_cell (v := .slice (some ⟨p2, o2, none⟩) e.evs.length e.c) (j := 0) el_len rb7 he (by rw [← ea2]; rfl) rfl rfl)) ?_
                repeat (first | refine x_move (by rfl) ?_ | refine x_as (by rfl) (by rfl) ?_ | refine x_skip (by rfl) ?_ | refine x_fld (by rfl) (by rfl) FldO.h ?_)
                refine x_idx j (by rfl) (by rfl) (by rfl) ElSz.h rfl hj' ?_
                refine w_load (by rfl) (by rfl) (rd_load ev_len AggT.h eR7 hnx rfl rfl) ?_
                refine w_bslice (e := 89) (cs := nx.cells) (by rfl) (by rfl) (by rfl) (by kernel_rfl) ?_
                intro b8 w8 e8 u8 h8
                refine w_append (more := []) (news := nx.cells) (by rfl) (by rfl) (by rfl) (by rfl) SlC.h (hse.at u8) (by rw [List.append_nil]; exact h8) (by rfl) (by rfl) (by omega) ((room_of hesm (by omega)).le (by omega)) ?_
                intro se' w9 own9 u9 in9
                repeat (first | refine x_move (by rfl) ?_ | refine x_as (by rfl) (by rfl) ?_ | refine x_skip (by rfl) ?_ | refine x_fld (by rfl) (by rfl) FldO.h ?_)
                refine x_nilw ?_
                rw [take_fl hnx] at own9
                (repeat (first | with_reducible refine n_then ?_ | with_reducible refine n_block ?_ | with_reducible refine n_jump ?_))
                (repeat (first | refine swp_seq ?_ | refine swp_block ?_)); refine swp_region (by kernel_rfl) ?_
                repeat (first | refine x_move (by rfl) ?_ | refine x_as (by rfl) (by rfl) ?_ | refine x_len (by rfl) (by rfl) ElOf.some ?_ | refine x_add (by rfl) (by rfl) (by rfl) (by omega) ?_ | refine x_lss (by rfl) (by rfl) (by rfl) ?_)
                refine x_nilw ?_
                have s7 := u7.size; have s8 := u8.size
                refine ⟨j + 1, ⟨se', at_ ⟨rfl, rfl, rfl, rfl, rfl, rfl, rfl, rfl, trivial⟩, hj', own9, fun b hb => ?_, (u7.trans u8).trans' u9 fun b hb h => by have := hsb7 b h; omega⟩, by omega⟩
                rcases in9 b hb with h | h
                · exact hsb7 b h
                · omega
              · refine swp_exit ?_; (repeat (first | with_reducible refine e_then ?_ | with_reducible refine e_jump ?_)); refine e_block ?_; (repeat (first | with_reducible refine n_then ?_ | with_reducible refine n_block ?_ | with_reducible refine n_jump ?_))
                have hjn : j = e.evs.length := by omega
                subst hjn
                rw [List.take_length] at hse
                exact ⟨rfl, se, at_ ⟨rfl, rfl, rfl, rfl, rfl, rfl, rfl, trivial⟩, hse, hsb7, u7⟩
            rintro σ w7 ⟨se, ⟨ρ, rfl⟩, hse, hsb7, u7⟩
            refine n_then ?_
            have h67 := h6.at u7
            have hL7 := hL.at u7
            obtain ⟨ae, ce, rfl⟩ := hse.slice
            (repeat (first | refine swp_seq ?_ | refine swp_block ?_)); refine swp_region (by kernel_rfl) ?_
            repeat (first | refine x_move (by rfl) ?_ | refine x_as (by rfl) (by rfl) ?_ | refine x_skip (by rfl) ?_ | refine x_fld (by rfl) (by rfl) FldO.h ?_)
            refine w_load (by rfl) (by rfl) (load_one OneT.h h67 (by rfl)) ?_
            repeat (first | refine x_move (by rfl) ?_ | refine x_as (by rfl) (by rfl) ?_ | refine x_skip (by rfl) ?_ | refine x_fld (by rfl) (by rfl) FldO.h ?_)
            refine w_bslice (e := 86) (cs := [.slice ae e.evs.length ce]) (by rfl) (by rfl) (by rfl) (by kernel_rfl) ?_
            intro b8 w8 e8 u8 h8
            refine w_append (more := []) (news := [.slice ae e.evs.length ce]) (by rfl) (by rfl) (by rfl) (by rfl) SlC.h (hL7.own.at u8) (by rw [List.append_nil]; exact h8) (by rfl) (by rfl) (by omega) ((room_of hsb (by omega)).le (by omega)) ?_
            intro sb' w9 own' u9 in9
            obtain ⟨as', cs', rfl⟩ := own'.slice
            repeat (first | refine x_move (by rfl) ?_ | refine x_as (by rfl) (by rfl) ?_ | refine x_skip (by rfl) ?_ | refine x_fld (by rfl) (by rfl) FldO.h ?_)
            have s7 := u7.size; have s8 := u8.size
            refine w_store (xs := [.slice as' (els.length + 1) cs']) (by rfl) (by rfl) (by rfl) (by rfl) SzT.h (by rfl) (by rfl) ((h67.at u8).get u9 fun h => by have := hL.new b6 h; omega) (by simp) ?_
            intro w10 u10 h10 _
            refine x_nilw ?_
            replace h10 : Blk w10 b6 40 [.int .i64 x.m.dec, .slice a1 x.m.names.length c1, .slice a2 x.m.lens.length c2, .slice a3 x.m.vals.length c3, .slice as' (els.length + 1) cs'] := h10
            have u68 := u7.trans u8
            have hL9 := hL.push (T := tEo) (r := ⟨ae, ce, e.evs⟩) (w1 := w8) s6 ⟨hse.at u8, hesm⟩ (fun b hb => hsb7 b hb) u68 own' u9 in9
            have hL10 := hL9.get u10 fun b hb _ hf => by have e' : b = b6 := hf; omega
            (repeat (first | with_reducible refine n_then ?_ | with_reducible refine n_block ?_ | with_reducible refine n_jump ?_))
            (repeat (first | refine swp_seq ?_ | refine swp_block ?_)); refine swp_region (by kernel_rfl) ?_
            repeat (first | refine x_move (by rfl) ?_ | refine x_as (by rfl) (by rfl) ?_ | refine x_len (by rfl) (by rfl) ElOf.some ?_ | refine x_add (by rfl) (by rfl) (by rfl) (by omega) ?_ | refine x_lss (by rfl) (by rfl) (by rfl) ?_)
            refine x_nilw ?_
            exact ⟨i + 1, ⟨_, _, at_ ⟨rfl, rfl, rfl, rfl, rfl, rfl, trivial⟩, hi', h10, hL10, by rw [List.map_append, hev, take_succ' he, List.map_append]; rfl, ((u6.ext u68).trans' u9 fun b hb h => by have := hL.new b h; omega).trans' u10 fun b _ h => h⟩, by omega⟩
          · refine swp_exit ?_; (repeat (first | with_reducible refine e_then ?_ | with_reducible refine e_jump ?_)); refine e_block ?_; (repeat (first | with_reducible refine n_then ?_ | with_reducible refine n_block ?_ | with_reducible refine n_jump ?_))
            have hin : i = x.bs.length := by omega
            rw [hin, List.take_length] at hev
            refine swp_fit [(0, .slice (some ⟨p0, o0, none⟩) ls.length c0), (3, so), (4, .int .i64 (n : Nat)), (6, .pointer (some ⟨b6, 0, none⟩))] ⟨rfl, rfl, rfl, rfl, trivial⟩ fun ρ => ?_
            obtain ⟨z, hz⟩ : ∃ z : Wt, z = ⟨⟨x.m.dec, a1, c1, x.m.names, a2, c2, x.m.lens, a3, c3, x.m.vals⟩, asb, csb, els⟩ := ⟨_, rfl⟩
            have hzc : z.cells = [.int .i64 x.m.dec, .slice a1 x.m.names.length c1, .slice a2 x.m.lens.length c2, .slice a3 x.m.vals.length c3, .slice asb els.length csb] := by rw [hz]; rfl
            rw [← hzc] at h6
            replace own0 := own0.get u6 fun b hb e => by have := in0 b hb; have e' : b = b6 := e; omega
            replace own1 := own1.get u6 fun b hb e => by have := in1 b hb; have e' : b = b6 := e; omega
            replace own2 := own2.get u6 fun b hb e => by have := in2 b hb; have e' : b = b6 := e; omega
            have s0 := u20.size; have s1' := u21.size; have s2' := u22.size
            have sU := uu6.size
            have lt0 : ∀ b, isIn (.slice a1 x.m.names.length c1) b → b < w20.heap.size := lt20
            have lt1 : ∀ b, isIn (.slice a2 x.m.lens.length c2) b → b < w21.heap.size := lt21
            have lt2 : ∀ b, isIn (.slice a3 x.m.vals.length c3) b → b < w22.heap.size := lt22
            have hAt : ∀ b, z.m.At b → w5.heap.size ≤ b ∧ b < w22.heap.size := fun b hb => by
              rw [hz] at hb
              rcases hb with h | h | h
              · have := in0 b h; have := lt0 b h; omega
              · have := in1 b h; have := lt1 b h; omega
              · have := in2 b h; have := lt2 b h; omega
            have hz6 : z.as.P w6 := by
              have hmo : z.m.Own w6 := by
                rw [hz]
                exact ⟨own0, own1, own2, fun b h h' => by have := lt0 b h; have := in1 b h'; omega, fun b h h' => by have := lt0 b h; have := in2 b h'; omega, fun b h h' => by have := lt1 b h; have := in2 b h'; omega, ⟨hs.n, hs.l, hs.v⟩⟩
              rw [hz] at hmo hAt ⊢
              exact wt_star hmo hL.own hL.each hL.pw (fun b hb hb' => by have := (hAt b hb).2; have := hL.new b hb'; omega) hL.ap (fun e he b hb hb' => by have := (hAt b hb).2; have := hL.newE e he b hb'; omega) (by show els.length * 24 ≤ _; rw [hle, hin]; exact hsb)
            have hzn : ∀ b, tWo.In z b → w1.heap.size ≤ b := fun b hb => by
              obtain ⟨c, hc, hb⟩ := hb
              rw [hz] at hc
              simp only [Wt.parts, List.mem_cons, List.mem_nil_iff, or_false] at hc
              rcases hc with rfl | rfl | rfl | rfl | rfl
              · have := in0 b hb; omega
              · have := in1 b hb; omega
              · have := in2 b hb; omega
              · have := hL.new b hb; omega
              · obtain ⟨c, hc, hcb⟩ := hb
                obtain ⟨e, he, rfl⟩ := List.mem_map.1 hc
                have := hL.newE e he b hcb; omega
            have hzs : z.says = x.says := by rw [hz, Wt.says, Wt.says, hev]; rfl
            (repeat (first | refine swp_seq ?_ | refine swp_block ?_)); refine swp_region (by kernel_rfl) ?_
            repeat (first | refine x_move (by rfl) ?_ | refine x_as (by rfl) (by rfl) ?_ | refine x_skip (by rfl) ?_ | refine x_fld (by rfl) (by rfl) FldO.h ?_)
            refine w_load (by rfl) (by rfl) (load_agg (xs := z.cells) AggT.h h6 (by rfl) (by rfl)) ?_
            refine w_bslice (e := 40) (cs := z.cells) (by rfl) (by rfl) (by rfl) (by kernel_rfl) ?_
            intro b7 w7 e7 u7 h7
            have u17 := uu6.trans u7
            refine w_append (more := []) (news := z.cells) (by rfl) (by rfl) (by rfl) (by rfl) SlC.h (hLst.own.at u17) (by rw [List.append_nil]; exact h7) (wt_len _) (wt_one _) (by omega) (hr104.le (by omega)) ?_
            intro so' w8 own8 u8 in8
            repeat (first | refine x_move (by rfl) ?_ | refine x_as (by rfl) (by rfl) ?_ | refine x_skip (by rfl) ?_ | refine x_fld (by rfl) (by rfl) FldO.h ?_)
            refine x_nilw ?_
            have hL8 := hLst.push (T := tWo) u01.size (Thing.at (T := tWo) (x := z) hz6 u7) hzn u17 own8 u8 in8
            (repeat (first | with_reducible refine n_then ?_ | with_reducible refine n_block ?_ | with_reducible refine n_jump ?_))
            (repeat (first | refine swp_seq ?_ | refine swp_block ?_)); refine swp_region (by kernel_rfl) ?_
            repeat (first | refine x_move (by rfl) ?_ | refine x_as (by rfl) (by rfl) ?_ | refine x_len (by rfl) (by rfl) ElOf.some ?_ | refine x_add (by rfl) (by rfl) (by rfl) (by omega) ?_ | refine x_lss (by rfl) (by rfl) (by rfl) ?_)
            refine x_nilw ?_
            exact ⟨n + 1, ⟨so', out ++ [z], at_ ⟨rfl, rfl, rfl, trivial⟩, hn', hL8, by rw [List.map_append, hsay, take_succ' hx0, List.map_append]; simp [hzs], (u01.trans u17).trans' u8 fun b hb h => by have := hLst.new b h; omega⟩, by omega⟩
  · refine swp_exit ?_; (repeat (first | with_reducible refine e_then ?_ | with_reducible refine e_jump ?_)); refine e_block ?_; (repeat (first | with_reducible refine n_then ?_ | with_reducible refine n_block ?_ | with_reducible refine n_jump ?_))
    have hin : n = ls.length := by omega
    rw [hin, List.take_length] at hsay
    (repeat (first | refine swp_seq ?_ | refine swp_block ?_)); refine swp_region (by kernel_rfl) ?_
    repeat (first | refine x_move (by rfl) ?_ | refine x_as (by rfl) (by rfl) ?_ | refine x_skip (by rfl) ?_ | refine x_fld (by rfl) (by rfl) FldO.h ?_)
    refine x_nilw ?_
    refine swp_ret ?_; (repeat (first | with_reducible refine r_then ?_ | with_reducible refine r_block ?_ | with_reducible refine r_jump ?_))
    exact post1 rfl rfl ⟨_, rfl, out, hLst, hsay, u01⟩
end Go.Proofs.Ytpnigekkbmanlaa
