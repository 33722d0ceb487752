/- Copies of a match that share nothing: ownMatch and the document's Twin. Conditions: what is read; room. -/
import Derived.Test.YtpnigekkbmanlaaMb
namespace Go.Proofs.Ytpnigekkbmanlaa
open Sx Hp
/-- small enough to be copied -/
structure Mt.Sm (x : Mt) : Prop where
  n : x.names.length * 16 ≤ 140737488351232
  l : x.lens.length * 8 ≤ 140737488351232
  v : x.vals.length * 16 ≤ 140737488351232
/-- a match whose lists are its own -/
structure Mt.Own (w : World) (x : Mt) : Prop where
  n : Sx.Own w 68 2 x.ns x.names.length (fl Nm.cells x.names)
  l : Sx.Own w 3 1 x.ls x.lens.length (fl encN x.lens)
  v : Sx.Own w 70 2 x.vs x.vals.length (fl Vl.cells x.vals)
  nl : ∀ b, isIn x.ns b → ¬isIn x.ls b
  nv : ∀ b, isIn x.ns b → ¬isIn x.vs b
  lv : ∀ b, isIn x.ls b → ¬isIn x.vs b
  sm : x.Sm
/-- all blocks of its lists, room too -/
def Mt.At (x : Mt) (b : Nat) : Prop := isIn x.ns b ∨ isIn x.ls b ∨ isIn x.vs b
theorem Mt.In.at {x : Mt} {b : Nat} (h : x.In b) : x.At b := by
  rcases h with h | h | h
  · exact .inl h.2
  · exact .inr (.inl h.2)
  · exact .inr (.inr h.2)
theorem Mt.Own.rdy {w : World} {x : Mt} (h : x.Own w) : x.Rdy w := ⟨h.n.rd, h.l.rd, h.v.rd, by have := h.sm.n; omega, by have := h.sm.l; omega, by have := h.sm.v; omega⟩
theorem Mt.Own.get {F : Nat → Prop} {w w' : World} {x : Mt} (h : x.Own w) (u : Upd F w w') (hn : ∀ b, x.At b → ¬F b) : x.Own w' :=
  ⟨h.n.get u fun b hb => hn b (.inl hb), h.l.get u fun b hb => hn b (.inr (.inl hb)), h.v.get u fun b hb => hn b (.inr (.inr hb)), h.nl, h.nv, h.lv, h.sm⟩
theorem Mt.Own.lt {w : World} {x : Mt} (h : x.Own w) {b : Nat} (hb : x.At b) : b < w.heap.size := by
  rcases hb with h' | h' | h'
  · exact h.n.lt h'
  · exact h.l.lt h'
  · exact h.v.lt h'
/-- a copy that shares nothing -/
structure Copy (w w' : World) (x y : Mt) : Prop where
  says : y.says = x.says
  own : y.Own w'
  new : ∀ b, y.At b → w.heap.size ≤ b
  ext : Ext w w'
theorem room_of {n k : Nat} (h : n * k ≤ 140737488351232) (hk : 1 ≤ k ∧ k ≤ 256) : Room n k := by
  have h1 : n * 1 ≤ n * k := Nat.mul_le_mul_left _ hk.1
  have h2 : n / 4 * k ≤ n * k / 4 := by
    have : n / 4 * 4 * k ≤ n * k := Nat.mul_le_mul_right _ (by omega)
    rw [Nat.mul_right_comm] at this
    omega
  refine ⟨by omega, ?_⟩
  rw [Nat.add_mul, Nat.add_mul]
  omega

set_option maxHeartbeats 1000000 in
set_option maxRecDepth 100000 in
theorem own_match (x : Mt) (w : World) (hx : x.Rdy w) (hs : x.Sm) : Gets Try.prog 43 [x.v] w fun v w' => ∃ y : Mt, v = y.v ∧ Copy w w' x y := by
  refine ⟨GoFn.h, calls_of_swp 16 Try.func43 Try.ntmps43 rfl (Nat.le_of_ble_eq_true rfl) ?_⟩
  (repeat (first | refine swp_seq ?_ | refine swp_block ?_)); refine swp_region (by kernel_rfl) ?_
  refine w_boxA (by rfl) (by rfl) (by rfl) ?_; intro b1 w1 e1 u1 h1
  have l0 := h1.lt
  refine w_alloc (by rfl) (by rfl) ZeroT.h ?_; intro b2 w2 e2 u2 h2
  replace h1 : Blk w2 b1 29 [.int .i64 x.dec, .slice x.na x.names.length x.nc, .slice x.la x.lens.length x.lc, .slice x.va x.vals.length x.vc] := h1.at u2
  have u := u1.trans u2
  obtain ⟨rn, rl, rv, -⟩ := hx.at u
  refine x_nilw ?_
  have s1 := u1.size; have s2 := u2.size
  (repeat (first | refine swp_seq ?_ | refine swp_block ?_)); refine swp_region (by kernel_rfl) ?_
  repeat (first | refine x_move (by rfl) ?_ | refine x_as (by rfl) (by rfl) ?_ | refine x_skip (by rfl) ?_ | refine x_fld (by rfl) (by rfl) FldO.h ?_ | refine x_nilck (by rfl) (by rfl) ?_ | refine x_len (by rfl) (by rfl) ElOf.some ?_ | refine x_ext (by rfl) (by rfl) (by rfl) ?_ | refine x_pickT (by rfl) (by rfl) (by rfl) ?_ | refine x_pickF (by rfl) (by rfl) (by rfl) ?_ | refine x_add (by rfl) (by rfl) (by rfl) (by omega) ?_ | refine x_sub (by rfl) (by rfl) (by rfl) (by omega) ?_ | refine x_not (by rfl) (by rfl) ?_)
  refine w_load (by rfl) (by rfl) (load_one OneT.h h1 (by rfl)) ?_
  refine w_appendR (by rfl) (by rfl) (by rfl) (by rfl) SlC.h (Own.nil _ _ _) rn (fl_one'' nm_one'' x.names) (by rw [Nat.zero_add]; exact room_of hs.n (by omega)) ?_
  intro sv3 w3 own3 u3 hin3
  rw [Nat.zero_add, List.nil_append] at own3
  obtain ⟨a3, c3, rfl⟩ := own3.slice
  have x3 : Ext w2 w3 := (Upd.refl _ w2).trans' u3 fun b _ h => h
  repeat (first | refine x_move (by rfl) ?_ | refine x_as (by rfl) (by rfl) ?_ | refine x_skip (by rfl) ?_ | refine x_fld (by rfl) (by rfl) FldO.h ?_ | refine x_nilck (by rfl) (by rfl) ?_ | refine x_len (by rfl) (by rfl) ElOf.some ?_ | refine x_ext (by rfl) (by rfl) (by rfl) ?_ | refine x_pickT (by rfl) (by rfl) (by rfl) ?_ | refine x_pickF (by rfl) (by rfl) (by rfl) ?_ | refine x_add (by rfl) (by rfl) (by rfl) (by omega) ?_ | refine x_sub (by rfl) (by rfl) (by rfl) (by omega) ?_ | refine x_not (by rfl) (by rfl) ?_)
  refine w_store (xs := [.slice a3 x.names.length c3]) (by rfl) (by rfl) (by rfl) (by rfl) SzT.h (by rfl) (by rfl) (h1.at x3) (by simp) ?_
  intro w4 u4 h4 _
  refine x_nilw ?_
  have l1 := h1.lt
  have l2 := h2.lt
  have i3 : ∀ b, isIn (.slice a3 x.names.length c3) b → w2.heap.size ≤ b := fun b hb => (hin3 b hb).resolve_left fun h => h
  replace own3 := own3.get u4 fun b hb e => by have := i3 b hb; have e' : b = b1 := e; omega
  replace h4 : Blk w4 b1 29 [.int .i64 x.dec, .slice a3 x.names.length c3, .slice x.la x.lens.length x.lc, .slice x.va x.vals.length x.vc] := h4
  have uA : Upd (fun b => b = b1) w2 w4 := (x3.of _).trans u4
  have h2A := h2.get uA (by omega)
  -- the lengths
  have rl4 := rl.get0 uA fun b h0 hb e => by have := hx.lt (.inr (.inl ⟨h0, hb⟩)); have e' : b = b1 := e; omega
  have rv4 := rv.get0 uA fun b h0 hb e => by have := hx.lt (.inr (.inr ⟨h0, hb⟩)); have e' : b = b1 := e; omega
  have sA := uA.size
  refine swp_fit [(1, .pointer (some ⟨b1, 0, none⟩)), (2, .pointer (some ⟨b2, 0, none⟩))] ⟨rfl, rfl, trivial⟩ fun ρ => ?_
  (repeat (first | refine swp_seq ?_ | refine swp_block ?_)); refine swp_region (by kernel_rfl) ?_
  repeat (first | refine x_move (by rfl) ?_ | refine x_as (by rfl) (by rfl) ?_ | refine x_skip (by rfl) ?_ | refine x_fld (by rfl) (by rfl) FldO.h ?_ | refine x_nilck (by rfl) (by rfl) ?_ | refine x_len (by rfl) (by rfl) ElOf.some ?_ | refine x_ext (by rfl) (by rfl) (by rfl) ?_ | refine x_pickT (by rfl) (by rfl) (by rfl) ?_ | refine x_pickF (by rfl) (by rfl) (by rfl) ?_ | refine x_add (by rfl) (by rfl) (by rfl) (by omega) ?_ | refine x_sub (by rfl) (by rfl) (by rfl) (by omega) ?_ | refine x_not (by rfl) (by rfl) ?_)
  refine w_load (by rfl) (by rfl) (load_one OneT.h h4 (by rfl)) ?_
  refine w_appendR (by rfl) (by rfl) (by rfl) (by rfl) SlC.h (Own.nil _ _ _) rl4 (fl_one'' encN_one x.lens) (by rw [Nat.zero_add]; exact room_of hs.l (by omega)) ?_
  intro sv5 w5 own5 u5 hin5
  rw [Nat.zero_add, List.nil_append] at own5
  obtain ⟨a5, c5, rfl⟩ := own5.slice
  have x5 : Ext w4 w5 := (Upd.refl _ w4).trans' u5 fun b _ h => h
  repeat (first | refine x_move (by rfl) ?_ | refine x_as (by rfl) (by rfl) ?_ | refine x_skip (by rfl) ?_ | refine x_fld (by rfl) (by rfl) FldO.h ?_ | refine x_nilck (by rfl) (by rfl) ?_ | refine x_len (by rfl) (by rfl) ElOf.some ?_ | refine x_ext (by rfl) (by rfl) (by rfl) ?_ | refine x_pickT (by rfl) (by rfl) (by rfl) ?_ | refine x_pickF (by rfl) (by rfl) (by rfl) ?_ | refine x_add (by rfl) (by rfl) (by rfl) (by omega) ?_ | refine x_sub (by rfl) (by rfl) (by rfl) (by omega) ?_ | refine x_not (by rfl) (by rfl) ?_)
  refine w_store (xs := [.slice a5 x.lens.length c5]) (by rfl) (by rfl) (by rfl) (by rfl) SzT.h (by rfl) (by rfl) (h4.at x5) (by simp) ?_
  intro w6 u6 h6 _
  refine x_nilw ?_
  have i5 : ∀ b, isIn (.slice a5 x.lens.length c5) b → w4.heap.size ≤ b := fun b hb => (hin5 b hb).resolve_left fun h => h
  have l3 : ∀ b, isIn (.slice a3 x.names.length c3) b → b < w4.heap.size := fun b hb => own3.lt hb
  have uB : Upd (fun b => b = b1) w4 w6 := (x5.of _).trans u6
  replace own3 := own3.get uB fun b hb e => by have := i3 b hb; have e' : b = b1 := e; omega
  replace own5 := own5.get u6 fun b hb e => by have := i5 b hb; have e' : b = b1 := e; omega
  replace h6 : Blk w6 b1 29 [.int .i64 x.dec, .slice a3 x.names.length c3, .slice a5 x.lens.length c5, .slice x.va x.vals.length x.vc] := h6
  have h2B := h2A.get uB (by omega)
  have rv6 := rv4.get0 uB fun b h0 hb e => by have := hx.lt (.inr (.inr ⟨h0, hb⟩)); have e' : b = b1 := e; omega
  have sB := uB.size
  refine swp_fit [(1, .pointer (some ⟨b1, 0, none⟩)), (2, .pointer (some ⟨b2, 0, none⟩))] ⟨rfl, rfl, trivial⟩ fun ρ => ?_
  (repeat (first | refine swp_seq ?_ | refine swp_block ?_)); refine swp_region (by kernel_rfl) ?_
  repeat (first | refine x_move (by rfl) ?_ | refine x_as (by rfl) (by rfl) ?_ | refine x_skip (by rfl) ?_ | refine x_fld (by rfl) (by rfl) FldO.h ?_ | refine x_nilck (by rfl) (by rfl) ?_ | refine x_len (by rfl) (by rfl) ElOf.some ?_ | refine x_ext (by rfl) (by rfl) (by rfl) ?_ | refine x_pickT (by rfl) (by rfl) (by rfl) ?_ | refine x_pickF (by rfl) (by rfl) (by rfl) ?_ | refine x_add (by rfl) (by rfl) (by rfl) (by omega) ?_ | refine x_sub (by rfl) (by rfl) (by rfl) (by omega) ?_ | refine x_not (by rfl) (by rfl) ?_)
  refine w_load (by rfl) (by rfl) (load_one OneT.h h6 (by rfl)) ?_
  refine w_appendR (by rfl) (by rfl) (by rfl) (by rfl) SlC.h (Own.nil _ _ _) rv6 (fl_one'' vl_one x.vals) (by rw [Nat.zero_add]; exact room_of hs.v (by omega)) ?_
  intro sv7 w7 own7 u7 hin7
  rw [Nat.zero_add, List.nil_append] at own7
  obtain ⟨a7, c7, rfl⟩ := own7.slice
  have x7 : Ext w6 w7 := (Upd.refl _ w6).trans' u7 fun b _ h => h
  repeat (first | refine x_move (by rfl) ?_ | refine x_as (by rfl) (by rfl) ?_ | refine x_skip (by rfl) ?_ | refine x_fld (by rfl) (by rfl) FldO.h ?_ | refine x_nilck (by rfl) (by rfl) ?_ | refine x_len (by rfl) (by rfl) ElOf.some ?_ | refine x_ext (by rfl) (by rfl) (by rfl) ?_ | refine x_pickT (by rfl) (by rfl) (by rfl) ?_ | refine x_pickF (by rfl) (by rfl) (by rfl) ?_ | refine x_add (by rfl) (by rfl) (by rfl) (by omega) ?_ | refine x_sub (by rfl) (by rfl) (by rfl) (by omega) ?_ | refine x_not (by rfl) (by rfl) ?_)
  refine w_store (xs := [.slice a7 x.vals.length c7]) (by rfl) (by rfl) (by rfl) (by rfl) SzT.h (by rfl) (by rfl) (h6.at x7) (by simp) ?_
  intro w8 u8 h8 _
  refine x_nilw ?_
  have i7 : ∀ b, isIn (.slice a7 x.vals.length c7) b → w6.heap.size ≤ b := fun b hb => (hin7 b hb).resolve_left fun h => h
  have l5 : ∀ b, isIn (.slice a5 x.lens.length c5) b → b < w6.heap.size := fun b hb => own5.lt hb
  have uC : Upd (fun b => b = b1) w6 w8 := (x7.of _).trans u8
  replace own3 := own3.get uC fun b hb e => by have := i3 b hb; have e' : b = b1 := e; omega
  replace own5 := own5.get uC fun b hb e => by have := i5 b hb; have e' : b = b1 := e; omega
  replace own7 := own7.get u8 fun b hb e => by have := i7 b hb; have e' : b = b1 := e; omega
  replace h8 : Blk w8 b1 29 [.int .i64 x.dec, .slice a3 x.names.length c3, .slice a5 x.lens.length c5, .slice a7 x.vals.length c7] := h8
  have h2C := h2B.get uC (by omega)
  have sC := uC.size
  refine swp_fit [(1, .pointer (some ⟨b1, 0, none⟩)), (2, .pointer (some ⟨b2, 0, none⟩))] ⟨rfl, rfl, trivial⟩ fun ρ => ?_
  obtain ⟨y, hy⟩ : ∃ y : Mt, y = ⟨x.dec, a3, c3, x.names, a5, c5, x.lens, a7, c7, x.vals⟩ := ⟨_, rfl⟩
  have hyc : y.cells = [.int .i64 x.dec, .slice a3 x.names.length c3, .slice a5 x.lens.length c5, .slice a7 x.vals.length c7] := by rw [hy]; rfl
  rw [← hyc] at h8
  (repeat (first | refine swp_seq ?_ | refine swp_block ?_)); refine swp_region (by kernel_rfl) ?_
  refine w_load (by rfl) (by rfl) (load_agg (xs := y.cells) AggT.h h8 (by rfl) (by rfl)) ?_
  refine w_store (xs := y.cells) (by rfl) (by rfl) (by rfl) (by rfl) SzT.h (by rfl) (by rfl) h2C (by simp) ?_
  intro w9 u9 h9 _
  refine x_nilw ?_
  refine swp_ret ?_; (repeat (first | with_reducible refine r_then ?_ | with_reducible refine r_block ?_ | with_reducible refine r_jump ?_))
  have hn : ∀ b, y.At b → w2.heap.size ≤ b := fun b hb => by
    rw [hy] at hb
    rcases hb with h | h | h
    · exact i3 b h
    · have := i5 b h; omega
    · have := i7 b h; omega
  have hown : y.Own w8 := by
    rw [hy]
    exact ⟨own3, own5, own7, fun b h h' => by have := l3 b h; have := i5 b h'; omega, fun b h h' => by have := l3 b h; have := i7 b h'; omega, fun b h h' => by have := l5 b h; have := i7 b h'; omega, ⟨hs.n, hs.l, hs.v⟩⟩
  refine postC1 rfl rfl (load_agg (xs := y.cells) AggT.h h9 (by rfl) (by rfl)) ⟨_, rfl, y, rfl, by rw [hy]; rfl, hown.get u9 fun b hb e => by have := hn b hb; have e' : b = b2 := e; omega, fun b hb => by have := hn b hb; omega, ?_⟩
  exact (((u.trans' uA fun b hb e => by have e' : b = b1 := e; omega).trans' uB fun b hb e => by have e' : b = b1 := e; omega).trans' uC fun b hb e => by have e' : b = b1 := e; omega).trans' u9 fun b hb e => by have e' : b = b2 := e; omega
end Go.Proofs.Ytpnigekkbmanlaa
