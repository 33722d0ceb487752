/- What waits, in plain terms; lists of things with memory of their own. No conditions. -/
import Derived.Test.YtpnigekkbmanlaaOw
import Derived.Test.YtpnigekkbmanlaaTw
namespace Go.Proofs.Ytpnigekkbmanlaa
open Sx Hp

/-- Things with memory: how they are read, where that lies. -/
structure Thing (α : Type) where
  enc : α → List Value
  k : Nat
  Rdy : World → α → Prop
  In : α → Nat → Prop
  len : ∀ x, (enc x).length = k
  get : ∀ {F : Nat → Prop} {w w' : World} {x : α}, Rdy w x → Upd F w w' → (∀ b, In x b → ¬F b) → Rdy w' x
  lt : ∀ {w : World} {x : α}, Rdy w x → ∀ {b : Nat}, In x b → b < w.heap.size
/-- A list of such things that is made of new memory alone. -/
structure Lst {α : Type} (T : Thing α) (e : TypeId) (w0 w : World) (sv : Value) (out : List α) : Prop where
  own : Own w e T.k sv out.length (fl T.enc out)
  each : ∀ y ∈ out, T.Rdy w y
  new : ∀ b, isIn sv b → w0.heap.size ≤ b
  newE : ∀ y ∈ out, ∀ b, T.In y b → w0.heap.size ≤ b
  ap : ∀ y ∈ out, ∀ b, T.In y b → ¬isIn sv b
section
variable {α : Type} {T : Thing α} {e : TypeId} {w0 w w' : World} {sv : Value} {out : List α}
theorem Thing.at {x : α} (h : T.Rdy w x) (u : Ext w w') : T.Rdy w' x := T.get h u fun _ _ h => h
theorem Lst.nil (T : Thing α) (e : TypeId) (w0 w : World) : Lst T e w0 w (.slice none 0 0) [] := ⟨Own.nil _ _ _, by simp, fun b h => h.elim, by simp, by simp⟩
theorem Lst.get {F : Nat → Prop} (h : Lst T e w0 w sv out) (u : Upd F w w') (hn : ∀ b, w0.heap.size ≤ b → b < w.heap.size → ¬F b) : Lst T e w0 w' sv out :=
  ⟨h.own.get u fun b hb => hn b (h.new b hb) (h.own.lt hb), fun r hr => T.get (h.each r hr) u fun b hb => hn b (h.newE r hr b hb) (T.lt (h.each r hr) hb), h.new, h.newE, h.ap⟩
theorem Lst.at (h : Lst T e w0 w sv out) (u : Ext w w') : Lst T e w0 w' sv out := h.get u fun _ _ _ h => h
theorem Lst.old {w1 : World} (h : Lst T e w0 w sv out) (hl : w1.heap.size ≤ w0.heap.size) : Lst T e w1 w sv out := ⟨h.own, h.each, fun b hb => Nat.le_trans hl (h.new b hb), fun y hy b hb => Nat.le_trans hl (h.newE y hy b hb), h.ap⟩
theorem Lst.push {w1 w2 : World} {sv' : Value} {r : α} (h : Lst T e w0 w sv out) (h0 : w0.heap.size ≤ w.heap.size) (hr : T.Rdy w1 r) (hn : ∀ b, T.In r b → w.heap.size ≤ b) (x : Ext w w1) (ho : Own w2 e T.k sv' (out.length + 1) (fl T.enc out ++ T.enc r)) (u : Upd (isIn sv) w1 w2) (hin : ∀ b, isIn sv' b → isIn sv b ∨ w1.heap.size ≤ b) : Lst T e w0 w2 sv' (out ++ [r]) := by
  have s1 := x.size
  have rn : ∀ b, T.In r b → ¬isIn sv b := fun b hb hv => by have := h.own.lt hv; have := hn b hb; omega
  have e1 : ∀ z ∈ out, T.Rdy w1 z := fun z hz => T.get (h.each z hz) x fun _ _ h => h
  refine ⟨?_, fun z hz => ?_, fun b hb => ?_, fun z hz b hb => ?_, fun z hz b hb hv => ?_⟩
  · rw [List.length_append, List.length_singleton, fl_append, fl_one]; exact ho
  · rcases List.mem_append.1 hz with hz | hz
    · exact T.get (e1 z hz) u (h.ap z hz)
    · rw [List.mem_singleton.1 hz]
      exact T.get hr u rn
  · rcases hin b hb with h' | h'
    · exact h.new b h'
    · omega
  · rcases List.mem_append.1 hz with hz | hz
    · exact h.newE z hz b hb
    · rw [List.mem_singleton.1 hz] at hb
      have := hn b hb; omega
  · rcases hin b hv with h' | h'
    · rcases List.mem_append.1 hz with hz | hz
      · exact h.ap z hz b hb h'
      · rw [List.mem_singleton.1 hz] at hb
        exact rn b hb h'
    · rcases List.mem_append.1 hz with hz | hz
      · have := T.lt (e1 z hz) hb; omega
      · rw [List.mem_singleton.1 hz] at hb
        have := T.lt hr hb; omega
end

/-- A list of events, as it is read. -/
structure El where
  a : Option Addr
  c : Nat
  evs : List Ev
def El.cells (r : El) : List Value := [.slice r.a r.evs.length r.c]
theorem el_len (r : El) : r.cells.length = 1 := rfl
theorem el_one (r : El) : r.cells.all Value.oneCell' = true := rfl
structure El.Rdy (w : World) (r : El) : Prop where
  rd : Rd w 11 (.slice r.a r.evs.length r.c) r.evs.length (fl Ev.cells r.evs)
  sm : r.evs.length * 88 ≤ 140737488351232
def El.In (r : El) (b : Nat) : Prop := 0 < r.evs.length ∧ isIn (.slice r.a r.evs.length r.c) b
def tEl : Thing El := ⟨El.cells, 1, El.Rdy, El.In, el_len, fun h u hn => ⟨h.rd.get0 u fun b h0 hb => hn b ⟨h0, hb⟩, h.sm⟩, fun h _ hb => h.rd.lt0 hb.1 hb.2⟩

/-- What waits: a match, and the events that are bound. -/
structure Wt where
  m : Mt
  ba : Option Addr
  bc : Nat
  bs : List El
def Wt.cells (x : Wt) : List Value := [.int .i64 x.m.dec, .slice x.m.na x.m.names.length x.m.nc, .slice x.m.la x.m.lens.length x.m.lc, .slice x.m.va x.m.vals.length x.m.vc, .slice x.ba x.bs.length x.bc]
abbrev Wt.v (x : Wt) : Value := .agg x.cells.toArray
def Wt.zero : Wt := ⟨Mt.zero, none, 0, []⟩
theorem wt_len (x : Wt) : x.cells.length = 5 := rfl
theorem wt_one (x : Wt) : x.cells.all Value.oneCell' = true := rfl
abbrev Sw := (Int × List Nm × List Int × List Vl) × List (List Ev)
def Wt.says (x : Wt) : Sw := (x.m.says, x.bs.map El.evs)
def wlt (x y : Wt) : Bool := mlt x.m y.m
theorem wlt_ord : Ord wlt := klt_tot.ord fun x : Wt => x.m.key
structure Wt.Rdy (w : World) (x : Wt) : Prop where
  m : x.m.Rdy w
  rd : Rd w 1 (.slice x.ba x.bs.length x.bc) x.bs.length (fl El.cells x.bs)
  each : ∀ e ∈ x.bs, e.Rdy w
  sm : x.m.Sm
  sb : x.bs.length * 24 ≤ 140737488351232
def Wt.In (x : Wt) (b : Nat) : Prop := x.m.In b ∨ (0 < x.bs.length ∧ isIn (.slice x.ba x.bs.length x.bc) b) ∨ ∃ e ∈ x.bs, e.In b
theorem Wt.Rdy.get {F : Nat → Prop} {w w' : World} {x : Wt} (h : x.Rdy w) (u : Upd F w w') (hn : ∀ b, x.In b → ¬F b) : x.Rdy w' :=
  ⟨h.m.get u fun b hb => hn b (.inl hb), h.rd.get0 u fun b h0 hb => hn b (.inr (.inl ⟨h0, hb⟩)), fun e he => tEl.get (h.each e he) u fun b hb => hn b (.inr (.inr ⟨e, he, hb⟩)), h.sm, h.sb⟩
theorem Wt.Rdy.at {w w' : World} {x : Wt} (h : x.Rdy w) (u : Ext w w') : x.Rdy w' := h.get u fun _ _ h => h
theorem Wt.Rdy.lt {w : World} {x : Wt} (h : x.Rdy w) {b : Nat} (hb : x.In b) : b < w.heap.size := by
  rcases hb with hb | ⟨h0, hb⟩ | ⟨e, he, hb⟩
  · exact h.m.lt hb
  · exact h.rd.lt0 h0 hb
  · exact tEl.lt (h.each e he) hb
def tWt : Thing Wt := ⟨Wt.cells, 5, Wt.Rdy, Wt.In, wt_len, fun h u hn => h.get u hn, fun h _ hb => h.lt hb⟩
/-- a copy that shares nothing -/
structure CopyW (w w' : World) (x y : Wt) : Prop where
  says : y.says = x.says
  rdy : y.Rdy w'
  new : ∀ b, y.In b → w.heap.size ≤ b
  ext : Ext w w'
theorem CopyW.at {w w' w'' : World} {x y : Wt} (h : CopyW w w' x y) (u : Ext w' w'') : CopyW w w'' x y := ⟨h.says, h.rdy.at u, h.new, h.ext.trans u⟩

section
variable {dr : Bool} {P : Program} {ops : Array Oper} {W : List Nat} {Q : Fr → World → Prop} {k : Nat} {rest : List Oper} {σ : Fr} {C : World → Prop} {w : World}
variable {d : Nat} {dst : Option Nat} {ty : TypeId} {pos : String} {after : Array Edge} {guard : Option (Nat × Bool)} {op : Op} {o : Oper} {v : Value}
theorem steps_appendN {t e sz bytes : Nat} {x y : Operand} {m c : Nat} {a : Option Addr} {news : List Value} {R : Value → World → Prop} (hx : ev σ x = .slice none 0 0) (hy : ev σ y = .slice a m c) (ht : slT P t = some (e, sz, bytes)) (hrd : Rd w sz (.slice a m c) m news) (h1 : news.all Value.oneCell' = true) (hr : Room m bytes)
    (h : ∀ sv' w', Own w' e sz sv' m news → Ext w w' → (∀ b, isIn sv' b → w.heap.size ≤ b) → R sv' w') : stepsTo P ⟨some d, .call ⟨.builtin .append, #[x, y], #[t, t]⟩, ty, pos, after, guard⟩ (ev σ) w R := by
  obtain ⟨hu, i, z, hi, hz, hsz, hzs, hby⟩ := slT_spec ht
  subst hby
  unfold stepsTo
  simp only [execOp, resolve, invoke, builtin, Sem.run_bind, Sem.run_pure, Result.andThen_ok, List.map_toArray, List.map_cons, List.map_nil, hx, hy]
  rcases Nat.eq_zero_or_pos m with h0 | h0
  · subst h0
    have hn : news = [] := List.eq_nil_of_length_eq_zero (by simpa using hrd.1)
    subst hn
    have hrun : (Builtin.append_ #[t, t] ty #[.slice none 0 0, .slice a 0 c]).run P w = .ok (.slice none 0 0) w := by
      cases a <;> simp [Builtin.append_, run_underlying hu, sizeOf, typeInfo, hi, Builtin.lenOf, Builtin.firstCells, loadCells, loadCellsFrom]
    rw [hrun]
    exact h _ w (Own.nil _ _ _) (Upd.refl _ _) fun b hb => hb.elim
  · obtain ⟨b', o', c', he, _, hc⟩ := hrd.pos h0
    simp only [Value.slice.injEq] at he
    obtain ⟨rfl, _, rfl⟩ := he
    obtain ⟨sv', w', hrun, h2, h3, h4⟩ := run_append (P := P) (ty := ty) hu hi hz hsz hzs (Own.nil w e sz) hrd.1 (a := ⟨b', o', none⟩) (c := c) (fun j u hu => by rw [Addr.add_lit]; exact hc j u hu) (List.all_eq_true.1 h1) h0 (by rw [Nat.zero_add]; exact hr)
    rw [hrun]
    rw [Nat.zero_add, List.nil_append] at h2
    exact h sv' w' h2 ((Upd.refl _ w).trans' h3 fun b _ h => h) fun b hb => (h4 b hb).resolve_left fun h => h
/-- append onto nothing, ahead of loads -/
theorem f_appendN {t e sz bytes : Nat} {x y : Operand} {m c : Nat} {a : Option Addr} {news : List Value} (hF : isF dr W k (.call ⟨.builtin .append, #[x, y], #[t, t]⟩) = true) (hw : wantS ops σ ⟨some d, .call ⟨.builtin .append, #[x, y], #[t, t]⟩, ty, pos, after, guard⟩ = true)
    (hx : ev σ x = .slice none 0 0) (hy : ev σ y = .slice a m c) (ht : slT P t = some (e, sz, bytes)) (h1 : news.all Value.oneCell' = true) (hr : Room m bytes) (hC : ∀ w w', C w → Ext w w' → C w') (hrd : ∀ w, C w → Rd w sz (.slice a m c) m news)
    (h : ∀ w sv' w', C w → Own w' e sz sv' m news → Ext w w' → (∀ b, isIn sv' b → w.heap.size ≤ b) → xw dr P ops W Q (k + 1) rest (upd σ d sv') (Ext w')) : xw dr P ops W Q k (⟨some d, .call ⟨.builtin .append, #[x, y], #[t, t]⟩, ty, pos, after, guard⟩ :: rest) σ C :=
  x_f hw rfl hF hC fun w hCw => steps_appendN hx hy ht (hrd w hCw) h1 hr fun sv' w' q1 q2 q3 => ⟨q2, h w sv' w' hCw q1 q2 q3⟩
end

set_option maxHeartbeats 1000000 in
set_option maxRecDepth 100000 in
theorem own_waiting (x : Wt) (w : World) (hx : x.Rdy w) : Gets Try.prog 47 [x.v] w fun v w' => ∃ y : Wt, v = y.v ∧ CopyW w w' x y := by
  refine ⟨GoFn.h, calls_of_swp 26 Try.func47 Try.ntmps47 rfl (Nat.le_of_ble_eq_true rfl) ?_⟩
  (repeat (first | refine swp_seq ?_ | refine swp_block ?_)); refine swp_region (by kernel_rfl) ?_
  refine w_boxA (by rfl) (by rfl) (by rfl) ?_; intro b1 w1 e1 u1 h1
  have l0 := h1.lt
  refine w_alloc (by rfl) (by rfl) ZeroT.h ?_; intro b2 w2 e2 u2 h2
  replace h1 : Blk w2 b1 40 x.cells := h1.at u2
  have s1 := u1.size; have s2 := u2.size
  refine x_nilw ?_
  have u := u1.trans u2
  have l2 := h2.lt
  (repeat (first | refine swp_seq ?_ | refine swp_block ?_)); refine swp_region (by kernel_rfl) ?_
  repeat (first | refine x_move (by rfl) ?_ | refine x_as (by rfl) (by rfl) ?_ | refine x_skip (by rfl) ?_ | refine x_fld (by rfl) (by rfl) FldO.h ?_ | refine x_nilck (by rfl) (by rfl) ?_ | refine x_len (by rfl) (by rfl) ElOf.some ?_ | refine x_ext (by rfl) (by rfl) (by rfl) ?_ | refine x_pickT (by rfl) (by rfl) (by rfl) ?_ | refine x_pickF (by rfl) (by rfl) (by rfl) ?_ | refine x_add (by rfl) (by rfl) (by rfl) (by omega) ?_ | refine x_sub (by rfl) (by rfl) (by rfl) (by omega) ?_ | refine x_not (by rfl) (by rfl) ?_)
  refine w_load (by rfl) (by rfl) (load_agg (xs := x.m.cells) AggT.h h1 (by rfl) (by rfl)) ?_
  refine w_call (by rfl) (by rfl) (by rfl) (own_match x.m w2 (hx.m.at u) hx.sm) ?_
  rintro _ w3 ⟨y, rfl, hc⟩
  refine x_build (v := .agg [.int .i64 y.dec, .slice y.na y.names.length y.nc, .slice y.la y.lens.length y.lc, .slice y.va y.vals.length y.vc, .slice none 0 0].toArray) (by rfl) (by rfl) (fun _ => by kernel_rfl) ?_
  refine w_alloc (by rfl) (by rfl) ZeroT.h ?_; intro b3 w4 e4 u4 h4
  refine w_store (xs := [.int .i64 y.dec, .slice y.na y.names.length y.nc, .slice y.la y.lens.length y.lc, .slice y.va y.vals.length y.vc, .slice none 0 0]) (by rfl) (by rfl) (by rfl) (by rfl) SzT.h (by rfl) (by rfl) h4 (by simp) ?_
  intro w5 u5 h5 _
  refine x_nilw ?_
  have s3 := hc.ext.size; have s4 := u4.size; have s5 := u5.size
  have u35 : Ext w3 w5 := u4.trans' u5 fun b hb e => by have e' : b = b3 := e; omega
  have u25 := hc.ext.trans u35
  have uw5 := u.trans u25
  replace h5 : Blk w5 b3 40 [.int .i64 y.dec, .slice y.na y.names.length y.nc, .slice y.la y.lens.length y.lc, .slice y.va y.vals.length y.vc, .slice none 0 0] := h5
  have hyo : y.Own w5 := hc.own.get u35 fun _ _ h => h
  have hyn : ∀ b, y.At b → w2.heap.size ≤ b ∧ b < b3 := fun b hb => ⟨hc.new b hb, by have := hc.own.lt hb; omega⟩
  replace h1 := h1.at u25
  replace h2 := h2.at u25
  have rb := hx.rd.at uw5
  have l5 := h5.lt
  refine swp_fit [(1, .pointer (some ⟨b1, 0, none⟩)), (2, .pointer (some ⟨b2, 0, none⟩)), (3, .pointer (some ⟨b3, 0, none⟩))] ⟨rfl, rfl, rfl, trivial⟩ fun ρ => ?_
  (repeat (first | refine swp_seq ?_ | refine swp_block ?_)); refine swp_region (by kernel_rfl) ?_
  repeat (first | refine x_move (by rfl) ?_ | refine x_as (by rfl) (by rfl) ?_ | refine x_skip (by rfl) ?_ | refine x_fld (by rfl) (by rfl) FldO.h ?_ | refine x_nilck (by rfl) (by rfl) ?_ | refine x_len (by rfl) (by rfl) ElOf.some ?_ | refine x_ext (by rfl) (by rfl) (by rfl) ?_ | refine x_pickT (by rfl) (by rfl) (by rfl) ?_ | refine x_pickF (by rfl) (by rfl) (by rfl) ?_ | refine x_add (by rfl) (by rfl) (by rfl) (by omega) ?_ | refine x_sub (by rfl) (by rfl) (by rfl) (by omega) ?_ | refine x_not (by rfl) (by rfl) ?_)
  refine w_load (by rfl) (by rfl) (load_one (v := .slice x.ba x.bs.length x.bc) OneT.h h1 (by rfl)) ?_
  repeat (first | refine x_move (by rfl) ?_ | refine x_as (by rfl) (by rfl) ?_ | refine x_skip (by rfl) ?_ | refine x_fld (by rfl) (by rfl) FldO.h ?_ | refine x_nilck (by rfl) (by rfl) ?_ | refine x_len (by rfl) (by rfl) ElOf.some ?_ | refine x_ext (by rfl) (by rfl) (by rfl) ?_ | refine x_pickT (by rfl) (by rfl) (by rfl) ?_ | refine x_pickF (by rfl) (by rfl) (by rfl) ?_ | refine x_add (by rfl) (by rfl) (by rfl) (by omega) ?_ | refine x_sub (by rfl) (by rfl) (by rfl) (by omega) ?_ | refine x_not (by rfl) (by rfl) ?_)
  refine x_nilw ?_
  refine swp_fit [(1, .pointer (some ⟨b1, 0, none⟩)), (2, .pointer (some ⟨b2, 0, none⟩)), (3, .pointer (some ⟨b3, 0, none⟩)), (11, .slice x.ba x.bs.length x.bc), (12, .int .i64 (x.bs.length : Nat)), (13, .int .i64 ((0 : Nat) : Int))] ⟨rfl, rfl, rfl, rfl, rfl, rfl, trivial⟩ fun ρ => ?_
  (repeat (first | refine swp_seq ?_ | refine swp_block ?_))
  refine swp_loop (fun (i : Nat) σ w6 => ∃ sb out, At σ [(1, .pointer (some ⟨b1, 0, none⟩)), (2, .pointer (some ⟨b2, 0, none⟩)), (3, .pointer (some ⟨b3, 0, none⟩)), (11, .slice x.ba x.bs.length x.bc), (12, .int .i64 (x.bs.length : Nat)), (13, .int .i64 (i : Nat))] ∧ i ≤ x.bs.length ∧ Blk w6 b3 40 [.int .i64 y.dec, .slice y.na y.names.length y.nc, .slice y.la y.lens.length y.lc, .slice y.va y.vals.length y.vc, sb] ∧ Lst tEl 86 w5 w6 sb out ∧ out.map El.evs = (x.bs.take i).map El.evs ∧ Upd (fun b => b = b3) w5 w6) (fun i => x.bs.length - i) 0 ⟨.slice none 0 0, [], at_ ⟨rfl, rfl, rfl, rfl, rfl, rfl, trivial⟩, by omega, h5, Lst.nil _ _ _ _, by simp, Upd.refl _ _⟩ ?_
  rintro i σ w6 ⟨sb, out, ⟨ρ, rfl⟩, hi, h6, hL, hev, u6⟩
  have hlo : out.length = i := by have := congrArg List.length hev; simp at this; omega
  have hsb := hx.sb
  have s6 := u6.size
  have hw5 : w.heap.size ≤ b3 := by have := uw5.size; have := u.size; omega
  have rb6 := rb.get0 u6 fun b h0 hb e => by have := hx.rd.lt0 h0 hb; have e' : b = b3 := e; omega
  obtain ⟨asb, csb, rfl⟩ := hL.own.slice
  (repeat (first | refine swp_seq ?_ | refine swp_block ?_)); refine swp_region (by kernel_rfl) ?_
  repeat (first | refine x_move (by rfl) ?_ | refine x_as (by rfl) (by rfl) ?_ | refine x_skip (by rfl) ?_ | refine x_fld (by rfl) (by rfl) FldO.h ?_ | refine w_load (by rfl) (by rfl) (load_one OneT.h (by assumption) (by rfl)) ?_ | refine x_nilck (by rfl) (by rfl) ?_ | refine x_len (by rfl) (by rfl) ElOf.some ?_ | refine x_iface (by rfl) (by rfl) NIf.h ?_ | refine x_ext (by rfl) (by rfl) (by rfl) ?_ | refine x_pickT (by rfl) (by rfl) (by rfl) ?_ | refine x_pickF (by rfl) (by rfl) (by rfl) ?_ | refine x_add (by rfl) (by rfl) (by rfl) (by omega) ?_ | refine x_sub (by rfl) (by rfl) (by rfl) (by omega) ?_ | refine x_lss (by rfl) (by rfl) (by rfl) ?_ | refine x_geq (by rfl) (by rfl) (by rfl) ?_ | refine x_leq (by rfl) (by rfl) (by rfl) ?_ | refine x_gtr (by rfl) (by rfl) (by rfl) ?_ | refine x_eql (by rfl) (by rfl) (by rfl) ?_ | refine x_neq (by rfl) (by rfl) (by rfl) ?_ | refine x_not (by rfl) (by rfl) ?_)
  refine x_nilw ?_
  (repeat (first | refine swp_seq ?_ | refine swp_block ?_))
  refine swp_if (by rfl) (fun h0 => swp_skip ?_) (fun h0 => ?_)
  · have hi' : i < x.bs.length := by omega
    obtain ⟨e, he⟩ := nthE hi'
    have hem := List.mem_of_getElem? he
    have eR := hx.each e hem
    have eR6 : e.Rdy w6 := tEl.get (Thing.at (T := tEl) eR uw5) u6 fun b hb hf => by have := tEl.lt eR hb; have e' : b = b3 := hf; omega
    obtain ⟨p1, o1, d1, he1, -, -⟩ := rb.pos (by omega)
    simp only [Value.slice.injEq] at he1
    obtain ⟨ea1, _, rfl⟩ := he1
    rw [ea1] at rb6 ⊢
    (repeat (first | with_reducible refine n_then ?_ | with_reducible refine n_block ?_ | with_reducible refine n_jump ?_))
    (repeat (first | refine swp_seq ?_ | refine swp_block ?_)); refine swp_region (by kernel_rfl) ?_
    repeat (first | refine x_move (by rfl) ?_ | refine x_as (by rfl) (by rfl) ?_ | refine x_skip (by rfl) ?_ | refine x_fld (by rfl) (by rfl) FldO.h ?_ | refine x_nilck (by rfl) (by rfl) ?_ | refine x_len (by rfl) (by rfl) ElOf.some ?_ | refine x_ext (by rfl) (by rfl) (by rfl) ?_ | refine x_pickT (by rfl) (by rfl) (by rfl) ?_ | refine x_pickF (by rfl) (by rfl) (by rfl) ?_ | refine x_add (by rfl) (by rfl) (by rfl) (by omega) ?_ | refine x_sub (by rfl) (by rfl) (by rfl) (by omega) ?_ | refine x_not (by rfl) (by rfl) ?_)
    refine x_idx i (by rfl) (by rfl) (by rfl) ElSz.h rfl hi' ?_
    refine w_load (by rfl) (by rfl) (load_one_cell OneT.h (rd_cell (v := .slice e.a e.evs.length e.c) (j := 0) el_len rb6 he rfl rfl rfl)) ?_
    repeat (first | refine x_move (by rfl) ?_ | refine x_as (by rfl) (by rfl) ?_ | refine x_skip (by rfl) ?_ | refine x_fld (by rfl) (by rfl) FldO.h ?_ | refine x_nilck (by rfl) (by rfl) ?_ | refine x_len (by rfl) (by rfl) ElOf.some ?_ | refine x_ext (by rfl) (by rfl) (by rfl) ?_ | refine x_pickT (by rfl) (by rfl) (by rfl) ?_ | refine x_pickF (by rfl) (by rfl) (by rfl) ?_ | refine x_add (by rfl) (by rfl) (by rfl) (by omega) ?_ | refine x_sub (by rfl) (by rfl) (by rfl) (by omega) ?_ | refine x_not (by rfl) (by rfl) ?_)
    refine x_nilw ?_
    refine swp_fit [(1, .pointer (some ⟨b1, 0, none⟩)), (2, .pointer (some ⟨b2, 0, none⟩)), (3, .pointer (some ⟨b3, 0, none⟩)), (11, .slice (some ⟨p1, o1, none⟩) x.bs.length x.bc), (12, .int .i64 (x.bs.length : Nat)), (13, .int .i64 (i : Nat)), (5, .slice e.a e.evs.length e.c)] ⟨rfl, rfl, rfl, rfl, rfl, rfl, rfl, trivial⟩ fun ρ => ?_
    (repeat (first | refine swp_seq ?_ | refine swp_block ?_)); refine swp_draw (Ext w6) [1003, 1004] Mixed.h (by kernel_rfl) (by kernel_rfl) (ext_drew w6) ?_
    repeat (first | refine x_move (by rfl) ?_ | refine x_as (by rfl) (by rfl) ?_ | refine x_skip (by rfl) ?_ | refine x_fld (by rfl) (by rfl) FldO.h ?_ | refine x_nilck (by rfl) (by rfl) ?_ | refine x_len (by rfl) (by rfl) ElOf.some ?_ | refine x_ext (by rfl) (by rfl) (by rfl) ?_ | refine x_pickT (by rfl) (by rfl) (by rfl) ?_ | refine x_pickF (by rfl) (by rfl) (by rfl) ?_ | refine x_add (by rfl) (by rfl) (by rfl) (by omega) ?_ | refine x_sub (by rfl) (by rfl) (by rfl) (by omega) ?_ | refine x_not (by rfl) (by rfl) ?_)
    refine q_load (by rfl) (by rfl) (by rfl) (fun w' hw' => load_one OneT.h (h6.at hw') (by rfl)) ?_
    repeat (first | refine x_move (by rfl) ?_ | refine x_as (by rfl) (by rfl) ?_ | refine x_skip (by rfl) ?_ | refine x_fld (by rfl) (by rfl) FldO.h ?_ | refine x_nilck (by rfl) (by rfl) ?_ | refine x_len (by rfl) (by rfl) ElOf.some ?_ | refine x_ext (by rfl) (by rfl) (by rfl) ?_ | refine x_pickT (by rfl) (by rfl) (by rfl) ?_ | refine x_pickF (by rfl) (by rfl) (by rfl) ?_ | refine x_add (by rfl) (by rfl) (by rfl) (by omega) ?_ | refine x_sub (by rfl) (by rfl) (by rfl) (by omega) ?_ | refine x_not (by rfl) (by rfl) ?_)
    refine f_appendN (news := fl Ev.cells e.evs) (by rfl) (by rfl) (by rfl) (by rfl) SlC.h (fl_one'' (fun _ => rfl) e.evs) (room_of eR.sm (by omega)) (fun _ _ h u => Upd.trans h u) (fun w' hw' => eR6.rd.at hw') ?_
    intro v1 se v2 q1 owne q2 hne
    obtain ⟨ae, ce, rfl⟩ := owne.slice
    refine f_bslice (e := 86) (cs := [.slice ae e.evs.length ce]) (by rfl) (by rfl) (by rfl) (by kernel_rfl) (fun _ _ h u => Upd.trans h u) ?_
    intro v3 c4 v4 q3 f4 q4 k4
    refine x_fix (by rfl) (by rfl) (by rfl) fun v5 q5 => ?_
    have q25 := (q3.trans q4).trans q5
    have q65 := (q1.trans q2).trans q25
    refine w_append (more := []) (news := [.slice ae e.evs.length ce]) (by rfl) (by rfl) (by rfl) (by rfl) SlC.h (hL.own.at q65) (by rw [List.append_nil]; exact k4.at q5) (by rfl) (by rfl) (by omega) ((room_of hx.sb (by omega)).le (by omega)) ?_
    intro sb' v6 own' q6 in'
    obtain ⟨as', cs', rfl⟩ := own'.slice
    repeat (first | refine x_move (by rfl) ?_ | refine x_as (by rfl) (by rfl) ?_ | refine x_skip (by rfl) ?_ | refine x_fld (by rfl) (by rfl) FldO.h ?_ | refine x_nilck (by rfl) (by rfl) ?_ | refine x_len (by rfl) (by rfl) ElOf.some ?_ | refine x_ext (by rfl) (by rfl) (by rfl) ?_ | refine x_pickT (by rfl) (by rfl) (by rfl) ?_ | refine x_pickF (by rfl) (by rfl) (by rfl) ?_ | refine x_add (by rfl) (by rfl) (by rfl) (by omega) ?_ | refine x_sub (by rfl) (by rfl) (by rfl) (by omega) ?_ | refine x_not (by rfl) (by rfl) ?_)
    have s65 := q65.size
    refine w_store (xs := [.slice as' (out.length + 1) cs']) (by rfl) (by rfl) (by rfl) (by rfl) SzT.h (by rfl) (by rfl) ((h6.at q65).get q6 fun h => by have := hL.new b3 h; omega) (by simp) ?_
    intro v7 q7 h7 _
    refine x_nilw ?_
    replace h7 : Blk v7 b3 40 [.int .i64 y.dec, .slice y.na y.names.length y.nc, .slice y.la y.lens.length y.lc, .slice y.va y.vals.length y.vc, .slice as' (out.length + 1) cs'] := h7
    have sq1 := q1.size
    have hL' := hL.push (T := tEl) (r := ⟨ae, ce, e.evs⟩) (w1 := v5) s6 ⟨owne.rd.at q25, eR.sm⟩ (fun b hb => by have := hne b hb.2; omega) q65 own' q6 in'
    have s6' := q6.size
    have hL7 := hL'.get q7 fun b hb _ hf => by have e' : b = b3 := hf; omega
    (repeat (first | with_reducible refine n_then ?_ | with_reducible refine n_block ?_ | with_reducible refine n_jump ?_))
    (repeat (first | refine swp_seq ?_ | refine swp_block ?_)); refine swp_region (by kernel_rfl) ?_
    repeat (first | refine x_move (by rfl) ?_ | refine x_as (by rfl) (by rfl) ?_ | refine x_skip (by rfl) ?_ | refine x_fld (by rfl) (by rfl) FldO.h ?_ | refine w_load (by rfl) (by rfl) (load_one OneT.h (by assumption) (by rfl)) ?_ | refine x_nilck (by rfl) (by rfl) ?_ | refine x_len (by rfl) (by rfl) ElOf.some ?_ | refine x_iface (by rfl) (by rfl) NIf.h ?_ | refine x_ext (by rfl) (by rfl) (by rfl) ?_ | refine x_pickT (by rfl) (by rfl) (by rfl) ?_ | refine x_pickF (by rfl) (by rfl) (by rfl) ?_ | refine x_add (by rfl) (by rfl) (by rfl) (by omega) ?_ | refine x_sub (by rfl) (by rfl) (by rfl) (by omega) ?_ | refine x_lss (by rfl) (by rfl) (by rfl) ?_ | refine x_geq (by rfl) (by rfl) (by rfl) ?_ | refine x_leq (by rfl) (by rfl) (by rfl) ?_ | refine x_gtr (by rfl) (by rfl) (by rfl) ?_ | refine x_eql (by rfl) (by rfl) (by rfl) ?_ | refine x_neq (by rfl) (by rfl) (by rfl) ?_ | refine x_not (by rfl) (by rfl) ?_)
    refine x_nilw ?_
    have hlo' : out.length = i := hlo
    refine ⟨i + 1, ⟨_, _, at_ ⟨rfl, rfl, rfl, rfl, rfl, rfl, trivial⟩, hi', h7, hL7, by rw [List.map_append, hev, take_succ' he, List.map_append]; rfl, ((u6.ext q65).trans' q6 fun b hb h => by have := hL.new b h; omega).trans' q7 fun b _ h => h⟩, by omega⟩
  · have hin : i = x.bs.length := by omega
    rw [hin, List.take_length] at hev
    refine swp_exit ?_; (repeat (first | with_reducible refine e_then ?_ | with_reducible refine e_jump ?_)); refine e_block ?_; (repeat (first | with_reducible refine n_then ?_ | with_reducible refine n_block ?_ | with_reducible refine n_jump ?_))
    refine swp_fit [(2, .pointer (some ⟨b2, 0, none⟩)), (3, .pointer (some ⟨b3, 0, none⟩))] ⟨rfl, rfl, trivial⟩ fun ρ => ?_
    obtain ⟨z, hz⟩ : ∃ z : Wt, z = ⟨y, asb, csb, out⟩ := ⟨_, rfl⟩
    have hzc : z.cells = [.int .i64 y.dec, .slice y.na y.names.length y.nc, .slice y.la y.lens.length y.lc, .slice y.va y.vals.length y.vc, .slice asb out.length csb] := by rw [hz]; rfl
    rw [← hzc] at h6
    have h26 := h2.get u6 (by omega)
    (repeat (first | refine swp_seq ?_ | refine swp_block ?_)); refine swp_region (by kernel_rfl) ?_
    refine w_load (by rfl) (by rfl) (load_agg (xs := z.cells) AggT.h h6 (by rfl) (by rfl)) ?_
    refine w_store (xs := z.cells) (by rfl) (by rfl) (by rfl) (by rfl) SzT.h (by rfl) (by rfl) h26 (by simp) ?_
    intro w7 u7 h7 _
    refine x_nilw ?_
    refine swp_ret ?_; (repeat (first | with_reducible refine r_then ?_ | with_reducible refine r_block ?_ | with_reducible refine r_jump ?_))
    have hy6 : y.Rdy w6 := hyo.rdy.get u6 fun b hb e => by have := (hyn b hb.at).2; have e' : b = b3 := e; omega
    have hlb : out.length * 24 ≤ 140737488351232 := by rw [hlo, hin]; exact hx.sb
    have hz6 : z.Rdy w6 := by rw [hz]; exact ⟨hy6, hL.own.rd, hL.each, hyo.sm, hlb⟩
    have hzn : ∀ b, z.In b → w2.heap.size ≤ b := fun b hb => by
      rw [hz] at hb
      rcases hb with h | h | ⟨e, he, h⟩
      · exact (hyn b h.at).1
      · have := hL.new b h.2; have := u25.size; omega
      · have := hL.newE e he b h; have := u25.size; omega
    have su := u.size
    refine postC1 rfl rfl (load_agg (xs := z.cells) AggT.h h7 (by rfl) (by rfl)) ⟨_, rfl, z, rfl, ?_, hz6.get u7 fun b hb e => by have := hzn b hb; have e' : b = b2 := e; omega, fun b hb => by have := hzn b hb; omega, ?_⟩
    · rw [hz, Wt.says, Wt.says, hev, hc.says]
    · exact (uw5.trans' u6 fun b hb e => by have e' : b = b3 := e; omega).trans' u7 fun b hb e => by have e' : b = b2 := e; omega
end Go.Proofs.Ytpnigekkbmanlaa
