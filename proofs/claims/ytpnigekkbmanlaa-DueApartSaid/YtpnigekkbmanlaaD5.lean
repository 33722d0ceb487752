/- DueApart's walk: it answers true. Conditions: what is read; room. -/
import Derived.Test.YtpnigekkbmanlaaCp
import Derived.Test.YtpnigekkbmanlaaFl
namespace Go.Proofs.Ytpnigekkbmanlaa
open Sx Hp
theorem len1' {α : Type} {l : List α} (h : l.length = 1) : ∃ a, l = [a] := by
  match l, h with
  | [a], _ => exact ⟨a, rfl⟩

set_option maxHeartbeats 4000000 in
set_option maxRecDepth 100000 in
theorem walk5 {w : World} (x : Wt) (hx : x.Rdy w) {va : Option Addr} {vc : Nat} {vals : List Vl} (hv : Rd w 2 (.slice va vals.length vc) vals.length (fl Vl.cells vals)) (hvs : vals.length * 16 ≤ 140737488351232) {ba : Option Addr} {bc : Nat} {bs : List El} (hbd : Rd w 1 (.slice ba bs.length bc) bs.length (fl El.cells bs)) (hbe : ∀ e ∈ bs, e.Rdy w) (hbs : bs.length * 24 ≤ 140737488351232) :
    Gets Try.prog 5 [x.v, .slice va vals.length vc, .slice ba bs.length bc] w fun v w' => v = .bool true ∧ Ext w w' := by
  refine ⟨GoFn.h, calls_of_swp 50 Try.func5 Try.ntmps5 rfl (Nat.le_of_ble_eq_true rfl) ?_⟩
  (repeat (first | refine swp_seq ?_ | refine swp_block ?_)); refine swp_region (by kernel_rfl) ?_
  refine w_boxA (by rfl) (by rfl) (by rfl) ?_; intro b3 w1 e1 u1 h1
  repeat (first | refine x_move (by rfl) ?_ | refine x_as (by rfl) (by rfl) ?_ | refine x_skip (by rfl) ?_ | refine x_fld (by rfl) (by rfl) FldO.h ?_ | refine x_nilck (by rfl) (by rfl) ?_ | refine x_len (by rfl) (by rfl) ElOf.some ?_ | refine x_ext (by rfl) (by rfl) (by rfl) ?_ | refine x_pickT (by rfl) (by rfl) (by rfl) ?_ | refine x_pickF (by rfl) (by rfl) (by rfl) ?_ | refine x_add (by rfl) (by rfl) (by rfl) (by omega) ?_ | refine x_sub (by rfl) (by rfl) (by rfl) (by omega) ?_ | refine x_not (by rfl) (by rfl) ?_)
  refine x_nilw ?_
  replace h1 : Blk w1 b3 40 x.cells := h1
  refine swp_fit [(1, .slice va vals.length vc), (2, .slice ba bs.length bc), (3, .pointer (some ⟨b3, 0, none⟩))] ⟨rfl, rfl, rfl, trivial⟩ fun ρ => ?_
  (repeat (first | refine swp_seq ?_ | refine swp_block ?_)); refine swp_region (by kernel_rfl) ?_
  refine w_call (by rfl) (by rfl) (by rfl) (due_new w1) ?_
  rintro _ w2 ⟨bd, rfl, hd2, u2⟩
  repeat (first | refine x_move (by rfl) ?_ | refine x_as (by rfl) (by rfl) ?_ | refine x_skip (by rfl) ?_ | refine x_fld (by rfl) (by rfl) FldO.h ?_ | refine x_nilck (by rfl) (by rfl) ?_ | refine x_len (by rfl) (by rfl) ElOf.some ?_ | refine x_ext (by rfl) (by rfl) (by rfl) ?_ | refine x_pickT (by rfl) (by rfl) (by rfl) ?_ | refine x_pickF (by rfl) (by rfl) (by rfl) ?_ | refine x_add (by rfl) (by rfl) (by rfl) (by omega) ?_ | refine x_sub (by rfl) (by rfl) (by rfl) (by omega) ?_ | refine x_not (by rfl) (by rfl) ?_)
  refine x_nilw ?_
  (repeat (first | refine swp_seq ?_ | refine swp_block ?_)); refine swp_region (by kernel_rfl) ?_
  repeat (first | refine x_move (by rfl) ?_ | refine x_as (by rfl) (by rfl) ?_ | refine x_skip (by rfl) ?_ | refine x_fld (by rfl) (by rfl) FldO.h ?_ | refine x_nilck (by rfl) (by rfl) ?_ | refine x_len (by rfl) (by rfl) ElOf.some ?_ | refine x_ext (by rfl) (by rfl) (by rfl) ?_ | refine x_pickT (by rfl) (by rfl) (by rfl) ?_ | refine x_pickF (by rfl) (by rfl) (by rfl) ?_ | refine x_add (by rfl) (by rfl) (by rfl) (by omega) ?_ | refine x_sub (by rfl) (by rfl) (by rfl) (by omega) ?_ | refine x_not (by rfl) (by rfl) ?_)
  refine x_eqlP Try.underlying41 (by rfl) (by rfl) (by rfl) ?_
  refine x_nilw ?_
  (repeat (first | refine swp_seq ?_ | refine swp_block ?_))
  refine swp_false (by rfl) (swp_skip ?_)
  have h2 := h1.at u2
  have u02 := u1.trans u2
  refine swp_fit [(1, .slice va vals.length vc), (2, .slice ba bs.length bc), (3, .pointer (some ⟨b3, 0, none⟩)), (7, .pointer (some ⟨bd, 0, none⟩))] ⟨rfl, rfl, rfl, rfl, trivial⟩ fun ρ => ?_
  (repeat (first | refine swp_seq ?_ | refine swp_block ?_)); refine swp_region (by kernel_rfl) ?_
  refine w_load (by rfl) (by rfl) (load_agg (xs := x.cells) AggT.h h2 (by rfl) (by rfl)) ?_
  refine w_bslice (e := 40) (cs := x.cells) (by rfl) (by rfl) (by rfl) (by kernel_rfl) ?_
  intro b4 w4 e4 u4 h4
  have u04 := u02.trans u4
  have hrl : RL w4 (.slice (some ⟨b4, 0, none⟩) 1 1) [x] := by
    refine ⟨⟨by simp [fl_one, wt_len], _, _, rfl, fun _ => ⟨b4, 0, rfl, h4.lt, fun j v hj => ?_⟩⟩, fun y hy => ?_⟩
    · rw [fl_one] at hj
      exact h4.cell (by rw [Nat.zero_add]; exact hj)
    · rw [List.mem_singleton.1 hy]
      exact hx.at u04
  refine w_call (by rfl) (by rfl) (by rfl) (copied hrl (by simp)) ?_
  rintro vl w5 ⟨out, hL, hsay, u5⟩
  have hl1 : out.length = 1 := by simpa using congrArg List.length hsay
  obtain ⟨y, rfl⟩ := len1' hl1
  have hys : y.says = x.says := by simpa using hsay
  have hyR := hL.each y (by simp)
  have hyn := hL.newE y (by simp)
  have rl5 := hL.rl
  obtain ⟨p1, o1, d1, he1, -, -⟩ := rl5.rd.pos (by simp)
  subst he1
  refine x_idx 0 (by rfl) (by rfl) (by rfl) ElSz.h rfl (by simp) ?_
  refine w_load (by rfl) (by rfl) (rd_load (x := y) (i := 0) wt_len AggT.h rl5.rd rfl rfl rfl) ?_
  refine w_alloc (by rfl) (by rfl) ZeroT.h ?_; intro b6 w6 e6 u6 h6
  refine w_store (xs := y.cells) (by rfl) (by rfl) (by rfl) (by rfl) SzT.h (by rfl) (by rfl) h6 (by simp) ?_
  intro w7 u7 h7 _
  refine x_nilw ?_
  have s2 := u2.size; have s4 := u4.size; have s5 := u5.size; have s6 := u6.size; have s7 := u7.size; have s1 := u1.size
  replace h7 : Blk w7 b6 40 [.int .i64 y.m.dec, .slice y.m.na y.m.names.length y.m.nc, .slice y.m.la y.m.lens.length y.m.lc, .slice y.m.va y.m.vals.length y.m.vc, .slice y.ba y.bs.length y.bc] := h7
  have u57 : Ext w5 w7 := u6.trans' u7 fun b hb e => by have e' : b = b6 := e; omega
  have u27 := (u4.trans u5).trans u57
  have u07 := u02.trans u27
  have l6 : w5.heap.size ≤ b6 := by omega
  refine swp_fit [(1, .slice va vals.length vc), (2, .slice ba bs.length bc), (3, .pointer (some ⟨b3, 0, none⟩)), (7, .pointer (some ⟨bd, 0, none⟩)), (8, .pointer (some ⟨b6, 0, none⟩))] ⟨rfl, rfl, rfl, rfl, rfl, trivial⟩ fun ρ => ?_
  (repeat (first | refine swp_seq ?_ | refine swp_block ?_)); refine swp_region (by kernel_rfl) ?_
  repeat (first | refine x_move (by rfl) ?_ | refine x_as (by rfl) (by rfl) ?_ | refine x_skip (by rfl) ?_ | refine x_fld (by rfl) (by rfl) FldO.h ?_ | refine x_nilck (by rfl) (by rfl) ?_ | refine x_len (by rfl) (by rfl) ElOf.some ?_ | refine x_ext (by rfl) (by rfl) (by rfl) ?_ | refine x_pickT (by rfl) (by rfl) (by rfl) ?_ | refine x_pickF (by rfl) (by rfl) (by rfl) ?_ | refine x_add (by rfl) (by rfl) (by rfl) (by omega) ?_ | refine x_sub (by rfl) (by rfl) (by rfl) (by omega) ?_ | refine x_not (by rfl) (by rfl) ?_)
  refine w_store (xs := [.slice va vals.length vc]) (by rfl) (by rfl) (by rfl) (by rfl) SzT.h (by rfl) (by rfl) h7 (by simp) ?_
  intro w8 u8 h8 _
  refine x_nilw ?_
  replace h8 : Blk w8 b6 40 [.int .i64 y.m.dec, .slice y.m.na y.m.names.length y.m.nc, .slice y.m.la y.m.lens.length y.m.lc, .slice va vals.length vc, .slice y.ba y.bs.length y.bc] := h8
  (repeat (first | refine swp_seq ?_ | refine swp_block ?_)); refine swp_region (by kernel_rfl) ?_
  repeat (first | refine x_move (by rfl) ?_ | refine x_as (by rfl) (by rfl) ?_ | refine x_skip (by rfl) ?_ | refine x_fld (by rfl) (by rfl) FldO.h ?_ | refine x_nilck (by rfl) (by rfl) ?_ | refine x_len (by rfl) (by rfl) ElOf.some ?_ | refine x_ext (by rfl) (by rfl) (by rfl) ?_ | refine x_pickT (by rfl) (by rfl) (by rfl) ?_ | refine x_pickF (by rfl) (by rfl) (by rfl) ?_ | refine x_add (by rfl) (by rfl) (by rfl) (by omega) ?_ | refine x_sub (by rfl) (by rfl) (by rfl) (by omega) ?_ | refine x_not (by rfl) (by rfl) ?_)
  refine w_store (xs := [.slice ba bs.length bc]) (by rfl) (by rfl) (by rfl) (by rfl) SzT.h (by rfl) (by rfl) h8 (by simp) ?_
  intro w9 u9 h9 _
  refine x_nilw ?_
  have s8 := u8.size; have s9 := u9.size
  obtain ⟨z, hz⟩ : ∃ z : Wt, z = ⟨⟨y.m.dec, y.m.na, y.m.nc, y.m.names, y.m.la, y.m.lc, y.m.lens, va, vc, vals⟩, ba, bc, bs⟩ := ⟨_, rfl⟩
  replace h9 : Blk w9 b6 40 z.cells := by rw [hz]; exact h9
  have u79 : Upd (fun b => b = b6) w7 w9 := u8.trans u9
  have u09 : Ext w w9 := u07.trans' u79 fun b hb e => by have e' : b = b6 := e; omega
  have hy9 : y.Rdy w9 := (hyR.at u57).get u79 fun b hb e => by have := tWt.lt hyR hb; have e' : b = b6 := e; omega
  have hzR : z.Rdy w9 := by
    rw [hz]
    exact ⟨⟨hy9.m.1, hy9.m.2.1, hv.at u09, hy9.m.2.2.2.1, hy9.m.2.2.2.2.1, by show vals.length ≤ _; omega⟩, hbd.at u09, fun e he => Thing.at (T := tEl) (hbe e he) u09, ⟨hy9.sm.n, hy9.sm.l, hvs⟩, hbs⟩
  have hzk : z.m.key = x.m.key := by
    rw [← says_key hys, hz]
    rfl
  have hd9 := (hd2.shrink.at u27).get u79 fun b _ hb e => by have := hb.2; have e' : b = b6 := e; omega
  have h39 := (h2.at u27).get u79 (by have := h2.lt; omega)
  refine swp_fit [(3, .pointer (some ⟨b3, 0, none⟩)), (7, .pointer (some ⟨bd, 0, none⟩)), (8, .pointer (some ⟨b6, 0, none⟩))] ⟨rfl, rfl, rfl, trivial⟩ fun ρ => ?_
  have hroom : Room 1 112 := room_of (by omega) (by omega)
  (repeat (first | refine swp_seq ?_ | refine swp_block ?_)); refine swp_region (by kernel_rfl) ?_
  repeat (first | refine x_move (by rfl) ?_ | refine x_as (by rfl) (by rfl) ?_ | refine x_skip (by rfl) ?_ | refine x_fld (by rfl) (by rfl) FldO.h ?_ | refine x_nilck (by rfl) (by rfl) ?_ | refine x_len (by rfl) (by rfl) ElOf.some ?_ | refine x_ext (by rfl) (by rfl) (by rfl) ?_ | refine x_pickT (by rfl) (by rfl) (by rfl) ?_ | refine x_pickF (by rfl) (by rfl) (by rfl) ?_ | refine x_add (by rfl) (by rfl) (by rfl) (by omega) ?_ | refine x_sub (by rfl) (by rfl) (by rfl) (by omega) ?_ | refine x_not (by rfl) (by rfl) ?_)
  refine w_load (by rfl) (by rfl) (load_agg (xs := x.cells) AggT.h h39 (by rfl) (by rfl)) ?_
  refine w_call (by rfl) (by rfl) (by rfl) (due_add hd9 x (hx.at u09) (by omega) hroom) ?_
  rintro v w10 hadd
  rcases hadd with ⟨-, ⟨q, hq, -⟩, -⟩ | ⟨rfl, -, y1, G1, hs1, hn1, hd10, u10, hG1⟩
  · simp at hq
  repeat (first | refine x_move (by rfl) ?_ | refine x_as (by rfl) (by rfl) ?_ | refine x_skip (by rfl) ?_ | refine x_fld (by rfl) (by rfl) FldO.h ?_ | refine x_nilck (by rfl) (by rfl) ?_ | refine x_len (by rfl) (by rfl) ElOf.some ?_ | refine x_ext (by rfl) (by rfl) (by rfl) ?_ | refine x_pickT (by rfl) (by rfl) (by rfl) ?_ | refine x_pickF (by rfl) (by rfl) (by rfl) ?_ | refine x_add (by rfl) (by rfl) (by rfl) (by omega) ?_ | refine x_sub (by rfl) (by rfl) (by rfl) (by omega) ?_ | refine x_not (by rfl) (by rfl) ?_)
  refine x_nilw ?_
  have s10 := u10.size
  have u010 : Ext w w10 := u09.trans' u10 fun b hb h => by have := h.1; have := u1.size; omega
  have h610 := h9.get u10 fun h => by have := h.2; omega
  have h310 := h39.get u10 fun h => by have := h.1; have := h1.lt; omega
  refine swp_fit [(3, .pointer (some ⟨b3, 0, none⟩)), (7, .pointer (some ⟨bd, 0, none⟩)), (8, .pointer (some ⟨b6, 0, none⟩)), (9, .bool true)] ⟨rfl, rfl, rfl, rfl, trivial⟩ fun ρ => ?_
  have hz10 : z.Rdy w10 := by
    refine hzR.get u10 fun b hb h => ?_
    rw [hz] at hb
    have hg := h.1
    have hg2 := h.2
    rcases hb with (h' | h' | h') | h' | ⟨e, he, h'⟩
    · have := hyn b (.inl (.inl h')); omega
    · have := hyn b (.inl (.inr (.inl h'))); omega
    · have := hv.lt0 h'.1 h'.2; omega
    · have := hbd.lt0 h'.1 h'.2; omega
    · have := tEl.lt (hbe e he) h'; omega
  (repeat (first | refine swp_seq ?_ | refine swp_block ?_)); refine swp_region (by kernel_rfl) ?_
  repeat (first | refine x_move (by rfl) ?_ | refine x_as (by rfl) (by rfl) ?_ | refine x_skip (by rfl) ?_ | refine x_fld (by rfl) (by rfl) FldO.h ?_ | refine x_nilck (by rfl) (by rfl) ?_ | refine x_len (by rfl) (by rfl) ElOf.some ?_ | refine x_ext (by rfl) (by rfl) (by rfl) ?_ | refine x_pickT (by rfl) (by rfl) (by rfl) ?_ | refine x_pickF (by rfl) (by rfl) (by rfl) ?_ | refine x_add (by rfl) (by rfl) (by rfl) (by omega) ?_ | refine x_sub (by rfl) (by rfl) (by rfl) (by omega) ?_ | refine x_not (by rfl) (by rfl) ?_)
  refine w_load (by rfl) (by rfl) (load_agg (xs := z.cells) AggT.h h610 (by rfl) (by rfl)) ?_
  refine w_call (by rfl) (by rfl) (by rfl) (due_add hd10 z hz10 (by omega) (room_of (by simp [put]) (by omega))) ?_
  rintro v w11 hadd2
  rcases hadd2 with ⟨rfl, -, hd11, u11⟩ | ⟨-, hno, -⟩
  rotate_left
  · exact absurd ⟨y1, by simp [put], by rw [says_key hs1, hzk]⟩ hno
  repeat (first | refine x_move (by rfl) ?_ | refine x_as (by rfl) (by rfl) ?_ | refine x_skip (by rfl) ?_ | refine x_fld (by rfl) (by rfl) FldO.h ?_ | refine x_nilck (by rfl) (by rfl) ?_ | refine x_len (by rfl) (by rfl) ElOf.some ?_ | refine x_ext (by rfl) (by rfl) (by rfl) ?_ | refine x_pickT (by rfl) (by rfl) (by rfl) ?_ | refine x_pickF (by rfl) (by rfl) (by rfl) ?_ | refine x_add (by rfl) (by rfl) (by rfl) (by omega) ?_ | refine x_sub (by rfl) (by rfl) (by rfl) (by omega) ?_ | refine x_not (by rfl) (by rfl) ?_)
  refine x_nilw ?_
  refine swp_fit [(3, .pointer (some ⟨b3, 0, none⟩)), (7, .pointer (some ⟨bd, 0, none⟩)), (9, .bool true), (10, .bool false)] ⟨rfl, rfl, rfl, rfl, trivial⟩ fun ρ => ?_
  (repeat (first | refine swp_seq ?_ | refine swp_block ?_)); refine swp_region (by kernel_rfl) ?_
  repeat (first | refine x_move (by rfl) ?_ | refine x_as (by rfl) (by rfl) ?_ | refine x_skip (by rfl) ?_ | refine x_fld (by rfl) (by rfl) FldO.h ?_ | refine x_nilck (by rfl) (by rfl) ?_ | refine x_len (by rfl) (by rfl) ElOf.some ?_ | refine x_ext (by rfl) (by rfl) (by rfl) ?_ | refine x_pickT (by rfl) (by rfl) (by rfl) ?_ | refine x_pickF (by rfl) (by rfl) (by rfl) ?_ | refine x_add (by rfl) (by rfl) (by rfl) (by omega) ?_ | refine x_sub (by rfl) (by rfl) (by rfl) (by omega) ?_ | refine x_not (by rfl) (by rfl) ?_)
  refine w_call (by rfl) (by rfl) (by rfl) (due_list hd11 (room_of (by simp [put]) (by omega)) (by simp [put])) ?_
  rintro vq w12 ⟨qs, hQ, hQs, u12⟩
  repeat (first | refine x_move (by rfl) ?_ | refine x_as (by rfl) (by rfl) ?_ | refine x_skip (by rfl) ?_ | refine x_fld (by rfl) (by rfl) FldO.h ?_ | refine x_nilck (by rfl) (by rfl) ?_ | refine x_len (by rfl) (by rfl) ElOf.some ?_ | refine x_ext (by rfl) (by rfl) (by rfl) ?_ | refine x_pickT (by rfl) (by rfl) (by rfl) ?_ | refine x_pickF (by rfl) (by rfl) (by rfl) ?_ | refine x_add (by rfl) (by rfl) (by rfl) (by omega) ?_ | refine x_sub (by rfl) (by rfl) (by rfl) (by omega) ?_ | refine x_not (by rfl) (by rfl) ?_)
  refine x_nilw ?_
  have hq1 : qs.length = 1 := by simpa [put] using congrArg List.length hQs
  obtain ⟨q, rfl⟩ := len1' hq1
  have hqs : q.says = x.says := by
    have : q.says = y1.says := by simpa [put] using hQs
    rw [this, hs1]
  have rq := hQ.rl
  obtain ⟨p2, o2, d2, he2, -, -⟩ := rq.rd.pos (by simp)
  subst he2
  have h312 := (h310.at u11).at u12
  have u012 := (u010.trans u11).trans u12
  refine swp_fit [(3, .pointer (some ⟨b3, 0, none⟩)), (9, .bool true), (10, .bool false), (11, .slice (some ⟨p2, o2, none⟩) 1 d2)] ⟨rfl, rfl, rfl, rfl, trivial⟩ fun ρ => ?_
  (repeat (first | refine swp_seq ?_ | refine swp_block ?_)); refine swp_draw (Ext w12) [] Mixed.h (by kernel_rfl) (by kernel_rfl) (ext_drew w12) ?_
  repeat (first | refine x_move (by rfl) ?_ | refine x_as (by rfl) (by rfl) ?_ | refine x_skip (by rfl) ?_ | refine x_fld (by rfl) (by rfl) FldO.h ?_ | refine x_nilck (by rfl) (by rfl) ?_ | refine x_len (by rfl) (by rfl) ElOf.some ?_ | refine x_ext (by rfl) (by rfl) (by rfl) ?_ | refine x_pickT (by rfl) (by rfl) (by rfl) ?_ | refine x_pickF (by rfl) (by rfl) (by rfl) ?_ | refine x_add (by rfl) (by rfl) (by rfl) (by omega) ?_ | refine x_sub (by rfl) (by rfl) (by rfl) (by omega) ?_ | refine x_not (by rfl) (by rfl) ?_)
  refine x_eqlT (by rfl) (by rfl) (by rfl) rfl ?_
  repeat (first | refine x_move (by rfl) ?_ | refine x_as (by rfl) (by rfl) ?_ | refine x_skip (by rfl) ?_ | refine x_fld (by rfl) (by rfl) FldO.h ?_ | refine x_nilck (by rfl) (by rfl) ?_ | refine x_len (by rfl) (by rfl) ElOf.some ?_ | refine x_ext (by rfl) (by rfl) (by rfl) ?_ | refine x_pickT (by rfl) (by rfl) (by rfl) ?_ | refine x_pickF (by rfl) (by rfl) (by rfl) ?_ | refine x_add (by rfl) (by rfl) (by rfl) (by omega) ?_ | refine x_sub (by rfl) (by rfl) (by rfl) (by omega) ?_ | refine x_not (by rfl) (by rfl) ?_)
  refine x_idx 0 (by rfl) (by rfl) (by rfl) ElSz.h rfl (by omega) ?_
  refine q_load (by rfl) (by rfl) (by rfl) (fun w' hw' => rd_load (x := q) (i := 0) wt_len AggT.h (rq.rd.at hw') rfl rfl rfl) ?_
  refine q_load (by rfl) (by rfl) (by rfl) (fun w' hw' => load_agg (xs := x.cells) AggT.h (h312.at hw') (by rfl) (by rfl)) ?_
  refine q_call (v := .bool true) (by rfl) (by rfl) (by rfl) (fun w' hw' => (same_waiting q x w' ((hQ.each q (by simp)).at hw') ((hx.at u012).at hw') hqs).mono fun v w'' h => ⟨h.1, hw'.trans h.2⟩) ?_
  repeat (first | refine x_move (by rfl) ?_ | refine x_as (by rfl) (by rfl) ?_ | refine x_skip (by rfl) ?_ | refine x_fld (by rfl) (by rfl) FldO.h ?_ | refine x_nilck (by rfl) (by rfl) ?_ | refine x_len (by rfl) (by rfl) ElOf.some ?_ | refine x_ext (by rfl) (by rfl) (by rfl) ?_ | refine x_pickT (by rfl) (by rfl) (by rfl) ?_ | refine x_pickF (by rfl) (by rfl) (by rfl) ?_ | refine x_add (by rfl) (by rfl) (by rfl) (by omega) ?_ | refine x_sub (by rfl) (by rfl) (by rfl) (by omega) ?_ | refine x_not (by rfl) (by rfl) ?_)
  refine x_nil fun w13 u13 => ?_
  refine swp_ret ?_; (repeat (first | with_reducible refine r_then ?_ | with_reducible refine r_block ?_ | with_reducible refine r_jump ?_))
  exact post1 rfl rfl ⟨_, rfl, rfl, u012.trans u13⟩
end Go.Proofs.Ytpnigekkbmanlaa
