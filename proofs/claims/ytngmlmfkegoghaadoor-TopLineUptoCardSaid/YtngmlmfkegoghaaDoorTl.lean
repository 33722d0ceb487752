/- TopLine's walk: it answers true. Conditions: what is read; the line's length. -/
import Derived.Test.YtngmlmfkegoghaaDoorLq
import Derived.Test.YtngmlmfkegoghaaDoorTq
namespace Go.Proofs.YtngmlmfkegoghaaDoor
open Sx

set_option maxHeartbeats 2000000 in
set_option maxRecDepth 100000 in
theorem walk4 (q : Qr) (m : Mt) (w : World) (hq : q.Rdy w) (hm : m.Rdy w) (hs : m.Sm) (hf : m.Fit) (hcn : m.names.length ≤ m.nc) (hcl : m.lens.length ≤ m.lc) (ht : Tab w) (hlim : (lineTxt q m).length ≤ 140737488355328) :
    Gets Tryd.prog 4 [q.v, m.v] w fun v w' => v = .bool true ∧ Ext w w' := by
  refine ⟨GoFn.h, calls_of_swp 32 Tryd.func4 Tryd.ntmps4 rfl (Nat.le_of_ble_eq_true rfl) ?_⟩
  (repeat (first | refine swp_seq ?_ | refine swp_block ?_)); refine swp_region (by kernel_rfl) ?_
  refine w_boxA (by rfl) (by rfl) (by rfl) ?_; intro b2 w2 e2 u2 h2
  refine w_boxA (by rfl) (by rfl) (by rfl) ?_; intro b3 w3 e3 u3 h3
  replace h2 : Blk w3 b2 29 q.cells := h2.at u3
  replace h3 : Blk w3 b3 34 m.cells := h3
  have u03 := u2.trans u3
  repeat (first | refine x_move (by rfl) ?_ | refine x_as (by rfl) (by rfl) ?_ | refine x_skip (by rfl) ?_ | refine x_fld (by rfl) (by rfl) FldO.h ?_ | refine x_nilck (by rfl) (by rfl) ?_ | refine x_len (by rfl) (by rfl) ElOf.some ?_ | refine x_ext (by rfl) (by rfl) (by rfl) ?_ | refine x_pickT (by rfl) (by rfl) (by rfl) ?_ | refine x_pickF (by rfl) (by rfl) (by rfl) ?_ | refine x_add (by rfl) (by rfl) (by rfl) (by omega) ?_ | refine x_sub (by rfl) (by rfl) (by rfl) (by omega) ?_ | refine x_not (by rfl) (by rfl) ?_)
  refine x_nilw ?_
  (repeat (first | refine swp_seq ?_ | refine swp_block ?_)); refine swp_region (by kernel_rfl) ?_
  refine w_load (by rfl) (by rfl) (load_agg (xs := q.cells) AggT.h h2 (by rfl) (by rfl)) ?_
  refine w_load (by rfl) (by rfl) (load_agg (xs := m.cells) AggT.h h3 (by rfl) (by rfl)) ?_
  refine w_call (by rfl) (by rfl) (by rfl) (ref_line q m w3 (hq.at u03) (hm.at u03) hs hf (ht.at u03) hlim) ?_
  rintro _ w4 ⟨rfl, u4⟩
  repeat (first | refine x_move (by rfl) ?_ | refine x_as (by rfl) (by rfl) ?_ | refine x_skip (by rfl) ?_ | refine x_fld (by rfl) (by rfl) FldO.h ?_ | refine x_nilck (by rfl) (by rfl) ?_ | refine x_len (by rfl) (by rfl) ElOf.some ?_ | refine x_ext (by rfl) (by rfl) (by rfl) ?_ | refine x_pickT (by rfl) (by rfl) (by rfl) ?_ | refine x_pickF (by rfl) (by rfl) (by rfl) ?_ | refine x_add (by rfl) (by rfl) (by rfl) (by omega) ?_ | refine x_sub (by rfl) (by rfl) (by rfl) (by omega) ?_ | refine x_not (by rfl) (by rfl) ?_)
  refine x_nilw ?_
  have u04 := u03.trans u4
  (repeat (first | refine swp_seq ?_ | refine swp_block ?_)); refine swp_region (by kernel_rfl) ?_
  refine w_load (by rfl) (by rfl) (load_agg (xs := q.cells) AggT.h (h2.at u4) (by rfl) (by rfl)) ?_
  refine w_call (by rfl) (by rfl) (by rfl) (twin_query q w4 (hq.at u04)) ?_
  rintro _ w5 ⟨p, rfl, hp, hpq, u5⟩
  refine w_alloc (by rfl) (by rfl) ZeroT.h ?_; intro b6 w6 e6 u6 h6
  refine w_store (xs := p.cells) (by rfl) (by rfl) (by rfl) (by rfl) SzT.h (by rfl) (by rfl) h6 (by simp) ?_
  intro w7 u7 h7 _
  refine x_nilw ?_
  replace h7 : Blk w7 b6 29 p.cells := h7
  have u57 : Ext w5 w7 := u6.trans' u7 fun b hb e => by have e' : b = b6 := e; omega
  have u37 := (u4.trans u5).trans u57
  have u07 := u03.trans u37
  (repeat (first | refine swp_seq ?_ | refine swp_block ?_)); refine swp_region (by kernel_rfl) ?_
  refine w_load (by rfl) (by rfl) (load_agg (xs := m.cells) AggT.h (h3.at u37) (by rfl) (by rfl)) ?_
  refine w_call (by rfl) (by rfl) (by rfl) (twin_match m w7 (hm.at u07) hs) ?_
  rintro _ w8 ⟨n, rfl, hn⟩
  refine w_alloc (by rfl) (by rfl) ZeroT.h ?_; intro b7 w9 e9 u9 h9
  refine w_store (xs := n.cells) (by rfl) (by rfl) (by rfl) (by rfl) SzT.h (by rfl) (by rfl) h9 (by simp) ?_
  intro w10 u10 h10 _
  refine x_nilw ?_
  replace h10 : Blk w10 b7 34 n.cells := h10
  have u8a : Ext w8 w10 := u9.trans' u10 fun b hb e => by have e' : b = b7 := e; omega
  have u7a := hn.ext.trans u8a
  have u3a := u37.trans u7a
  have u0a := u03.trans u3a
  (repeat (first | refine swp_seq ?_ | refine swp_block ?_)); refine swp_region (by kernel_rfl) ?_
  refine w_load (by rfl) (by rfl) (load_agg (xs := q.cells) AggT.h (h2.at u3a) (by rfl) (by rfl)) ?_
  refine w_load (by rfl) (by rfl) (load_agg (xs := m.cells) AggT.h (h3.at u3a) (by rfl) (by rfl)) ?_
  refine w_call (by rfl) (by rfl) (by rfl) (line12 q m w10 (hq.at u0a) (hm.at u0a) hs hf hcn hcl (ht.at u0a) hlim) ?_
  rintro _ w11 ⟨rfl, u11⟩
  repeat (first | refine x_move (by rfl) ?_ | refine x_as (by rfl) (by rfl) ?_ | refine x_skip (by rfl) ?_ | refine x_fld (by rfl) (by rfl) FldO.h ?_ | refine x_nilck (by rfl) (by rfl) ?_ | refine x_len (by rfl) (by rfl) ElOf.some ?_ | refine x_ext (by rfl) (by rfl) (by rfl) ?_ | refine x_pickT (by rfl) (by rfl) (by rfl) ?_ | refine x_pickF (by rfl) (by rfl) (by rfl) ?_ | refine x_add (by rfl) (by rfl) (by rfl) (by omega) ?_ | refine x_sub (by rfl) (by rfl) (by rfl) (by omega) ?_ | refine x_not (by rfl) (by rfl) ?_)
  refine x_nilw ?_
  have u3b := u3a.trans u11
  have u0b := u03.trans u3b
  (repeat (first | refine swp_seq ?_ | refine swp_block ?_)); refine swp_region (by kernel_rfl) ?_
  repeat (first | refine x_move (by rfl) ?_ | refine x_as (by rfl) (by rfl) ?_ | refine x_skip (by rfl) ?_ | refine x_fld (by rfl) (by rfl) FldO.h ?_ | refine x_nilck (by rfl) (by rfl) ?_ | refine x_len (by rfl) (by rfl) ElOf.some ?_ | refine x_ext (by rfl) (by rfl) (by rfl) ?_ | refine x_pickT (by rfl) (by rfl) (by rfl) ?_ | refine x_pickF (by rfl) (by rfl) (by rfl) ?_ | refine x_add (by rfl) (by rfl) (by rfl) (by omega) ?_ | refine x_sub (by rfl) (by rfl) (by rfl) (by omega) ?_ | refine x_not (by rfl) (by rfl) ?_)
  refine x_eqlS (by rfl) (by rfl) (by rfl) ?_
  repeat (first | refine x_move (by rfl) ?_ | refine x_as (by rfl) (by rfl) ?_ | refine x_skip (by rfl) ?_ | refine x_fld (by rfl) (by rfl) FldO.h ?_ | refine x_nilck (by rfl) (by rfl) ?_ | refine x_len (by rfl) (by rfl) ElOf.some ?_ | refine x_ext (by rfl) (by rfl) (by rfl) ?_ | refine x_pickT (by rfl) (by rfl) (by rfl) ?_ | refine x_pickF (by rfl) (by rfl) (by rfl) ?_ | refine x_add (by rfl) (by rfl) (by rfl) (by omega) ?_ | refine x_sub (by rfl) (by rfl) (by rfl) (by omega) ?_ | refine x_not (by rfl) (by rfl) ?_)
  refine w_load (by rfl) (by rfl) (load_agg (xs := p.cells) AggT.h (h7.at (u7a.trans u11)) (by rfl) (by rfl)) ?_
  refine w_load (by rfl) (by rfl) (load_agg (xs := q.cells) AggT.h (h2.at u3b) (by rfl) (by rfl)) ?_
  refine w_call (by rfl) (by rfl) (by rfl) (same_query q p w11 (hq.at u0b) (hp.at ((u57.trans u7a).trans u11)) hpq) ?_
  rintro _ w12 ⟨rfl, u12⟩
  repeat (first | refine x_move (by rfl) ?_ | refine x_as (by rfl) (by rfl) ?_ | refine x_skip (by rfl) ?_ | refine x_fld (by rfl) (by rfl) FldO.h ?_ | refine x_nilck (by rfl) (by rfl) ?_ | refine x_len (by rfl) (by rfl) ElOf.some ?_ | refine x_ext (by rfl) (by rfl) (by rfl) ?_ | refine x_pickT (by rfl) (by rfl) (by rfl) ?_ | refine x_pickF (by rfl) (by rfl) (by rfl) ?_ | refine x_add (by rfl) (by rfl) (by rfl) (by omega) ?_ | refine x_sub (by rfl) (by rfl) (by rfl) (by omega) ?_ | refine x_not (by rfl) (by rfl) ?_)
  refine w_load (by rfl) (by rfl) (load_agg (xs := n.cells) AggT.h (h10.at (u11.trans u12)) (by rfl) (by rfl)) ?_
  refine w_load (by rfl) (by rfl) (load_agg (xs := m.cells) AggT.h (h3.at (u3b.trans u12)) (by rfl) (by rfl)) ?_
  refine w_call (by rfl) (by rfl) (by rfl) (same_match m n w12 (hm.at (u0b.trans u12)) (hn.own.rdy.at ((u8a.trans u11).trans u12)) hn.says) ?_
  rintro _ w13 ⟨rfl, u13⟩
  repeat (first | refine x_move (by rfl) ?_ | refine x_as (by rfl) (by rfl) ?_ | refine x_skip (by rfl) ?_ | refine x_fld (by rfl) (by rfl) FldO.h ?_ | refine x_nilck (by rfl) (by rfl) ?_ | refine x_len (by rfl) (by rfl) ElOf.some ?_ | refine x_ext (by rfl) (by rfl) (by rfl) ?_ | refine x_pickT (by rfl) (by rfl) (by rfl) ?_ | refine x_pickF (by rfl) (by rfl) (by rfl) ?_ | refine x_add (by rfl) (by rfl) (by rfl) (by omega) ?_ | refine x_sub (by rfl) (by rfl) (by rfl) (by omega) ?_ | refine x_not (by rfl) (by rfl) ?_)
  refine x_nilw ?_
  refine swp_ret ?_; (repeat (first | with_reducible refine r_then ?_ | with_reducible refine r_block ?_ | with_reducible refine r_jump ?_))
  exact post1 rfl rfl ⟨_, rfl, rfl, (u0b.trans u12).trans u13⟩
end Go.Proofs.YtngmlmfkegoghaaDoor
