/- Copies of what waits that are owned whole, room too. No conditions. -/
import Derived.Test.YtpnigekkbmanlaaSu0
import Derived.Test.YtpnigekkbmanlaaLw
namespace Go.Proofs.Ytpnigekkbmanlaa
open Sx Hp

def El.as (r : El) : As := aOwn 89 11 (.slice r.a r.evs.length r.c) r.evs.length (fl Ev.cells r.evs)
def tEo : Thing El := ⟨El.cells, 1, fun w r => r.as.P w ∧ r.evs.length * 88 ≤ 140737488351232, fun r => r.as.In, el_len, fun h u hn => ⟨As.get _ h.1 u hn, h.2⟩, fun h _ hb => As.lt _ h.1 hb⟩
def Wt.bv (x : Wt) : Value := .slice x.ba x.bs.length x.bc
/-- the lists of what waits, one by one -/
def Wt.parts (x : Wt) : List As := [aOwn 68 2 x.m.ns x.m.names.length (fl Nm.cells x.m.names), aOwn 3 1 x.m.ls x.m.lens.length (fl encN x.m.lens), aOwn 70 2 x.m.vs x.m.vals.length (fl Vl.cells x.m.vals), aOwn 86 1 x.bv x.bs.length (fl El.cells x.bs), As.all (x.bs.map El.as)]
structure Wt.Sm (x : Wt) : Prop where
  m : x.m.Sm
  b : x.bs.length * 24 ≤ 140737488351232
  e : ∀ e ∈ x.bs, e.evs.length * 88 ≤ 140737488351232
/-- what waits, owned whole -/
def Wt.as (x : Wt) : As := ⟨fun w => Star w x.parts ∧ x.Sm, fun b => ∃ a ∈ x.parts, a.In b, fun h u hn => ⟨h.1.get u fun a ha b hb => hn b ⟨a, ha, hb⟩, h.2⟩, fun h ⟨a, ha, hb⟩ => a.lt (h.1.mem ha) hb⟩
def tWo : Thing Wt := ⟨Wt.cells, 5, fun w x => x.as.P w, fun x => x.as.In, wt_len, fun h u hn => As.get _ h u hn, fun h _ hb => As.lt _ h hb⟩
theorem star_map {α : Type} {w : World} {f : α → As} : ∀ {l : List α}, (∀ e ∈ l, (f e).P w) → (l.Pairwise fun x y => ∀ b, (f x).In b → ¬(f y).In b) → Star w (l.map f)
  | [], _, _ => trivial
  | x :: l, h, p => by
    obtain ⟨p1, p2⟩ := List.pairwise_cons.1 p
    refine ⟨h x (by simp), fun b hb c hc => ?_, star_map (fun e he => h e (by simp [he])) p2⟩
    obtain ⟨y, hy, rfl⟩ := List.mem_map.1 hc
    exact p1 y hy b hb
theorem wt_star {w : World} {x : Wt} (m : x.m.Own w) (bo : Own w 86 1 x.bv x.bs.length (fl El.cells x.bs)) (es : ∀ e ∈ x.bs, tEo.Rdy w e) (pw : x.bs.Pairwise fun e f => ∀ b, tEo.In e b → ¬tEo.In f b) (d1 : ∀ b, x.m.At b → ¬isIn x.bv b) (d2 : ∀ e ∈ x.bs, ∀ b, tEo.In e b → ¬isIn x.bv b) (d3 : ∀ e ∈ x.bs, ∀ b, x.m.At b → ¬tEo.In e b) (sb : x.bs.length * 24 ≤ 140737488351232) : x.as.P w := by
  have hall : ∀ b, x.m.At b → ¬(As.all (x.bs.map El.as)).In b := fun b hb ⟨c, hc, hcb⟩ => by
    obtain ⟨e, he, rfl⟩ := List.mem_map.1 hc
    exact d3 e he b hb hcb
  refine ⟨⟨m.n, fun b hb c hc => ?_, m.l, fun b hb c hc => ?_, m.v, fun b hb c hc => ?_, bo, fun b hb c hc => ?_, star_map (fun e he => (es e he).1) pw, by simp, trivial⟩, m.sm, sb, fun e he => (es e he).2⟩
  · have hA : x.m.At b := .inl hb
    simp only [List.mem_cons, List.mem_nil_iff, or_false] at hc
    rcases hc with rfl | rfl | rfl | rfl
    · exact m.nl b hb
    · exact m.nv b hb
    · exact d1 b hA
    · exact hall b hA
  · have hA : x.m.At b := .inr (.inl hb)
    simp only [List.mem_cons, List.mem_nil_iff, or_false] at hc
    rcases hc with rfl | rfl | rfl
    · exact m.lv b hb
    · exact d1 b hA
    · exact hall b hA
  · have hA : x.m.At b := .inr (.inr hb)
    simp only [List.mem_cons, List.mem_nil_iff, or_false] at hc
    rcases hc with rfl | rfl
    · exact d1 b hA
    · exact hall b hA
  · rw [List.mem_singleton.1 hc]
    rintro ⟨c, hc, hcb⟩
    obtain ⟨e, he, rfl⟩ := List.mem_map.1 hc
    exact d2 e he b hcb hb
/-- a list of such things, each apart from the others -/
structure Lsp {α : Type} (T : Thing α) (e : TypeId) (w0 w : World) (sv : Value) (out : List α) : Prop where
  l : Lst T e w0 w sv out
  pw : out.Pairwise fun x y => ∀ b, T.In x b → ¬T.In y b
section
variable {α : Type} {T : Thing α} {e : TypeId} {w0 w w' : World} {sv : Value} {out : List α}
theorem Lsp.own (h : Lsp T e w0 w sv out) : Own w e T.k sv out.length (fl T.enc out) := h.l.own
theorem Lsp.each (h : Lsp T e w0 w sv out) : ∀ y ∈ out, T.Rdy w y := h.l.each
theorem Lsp.new (h : Lsp T e w0 w sv out) : ∀ b, isIn sv b → w0.heap.size ≤ b := h.l.new
theorem Lsp.newE (h : Lsp T e w0 w sv out) : ∀ y ∈ out, ∀ b, T.In y b → w0.heap.size ≤ b := h.l.newE
theorem Lsp.ap (h : Lsp T e w0 w sv out) : ∀ y ∈ out, ∀ b, T.In y b → ¬isIn sv b := h.l.ap
theorem Lsp.nil (T : Thing α) (e : TypeId) (w0 w : World) : Lsp T e w0 w (.slice none 0 0) [] := ⟨Lst.nil T e w0 w, List.Pairwise.nil⟩
theorem Lsp.get {F : Nat → Prop} (h : Lsp T e w0 w sv out) (u : Upd F w w') (hn : ∀ b, w0.heap.size ≤ b → b < w.heap.size → ¬F b) : Lsp T e w0 w' sv out := ⟨h.l.get u hn, h.pw⟩
theorem Lsp.at (h : Lsp T e w0 w sv out) (u : Ext w w') : Lsp T e w0 w' sv out := ⟨h.l.at u, h.pw⟩
theorem Lsp.old {w1 : World} (h : Lsp T e w0 w sv out) (hl : w1.heap.size ≤ w0.heap.size) : Lsp T e w1 w sv out := ⟨h.l.old hl, h.pw⟩
theorem Lsp.push {w1 w2 : World} {sv' : Value} {r : α} (h : Lsp T e w0 w sv out) (h0 : w0.heap.size ≤ w.heap.size) (hr : T.Rdy w1 r) (hn : ∀ b, T.In r b → w.heap.size ≤ b) (x : Ext w w1) (ho : Own w2 e T.k sv' (out.length + 1) (fl T.enc out ++ T.enc r)) (u : Upd (isIn sv) w1 w2) (hin : ∀ b, isIn sv' b → isIn sv b ∨ w1.heap.size ≤ b) : Lsp T e w0 w2 sv' (out ++ [r]) :=
  ⟨h.l.push h0 hr hn x ho u hin, List.pairwise_append.2 ⟨h.pw, List.pairwise_singleton _ _, fun y hy z hz b hb hzb => by
    rw [List.mem_singleton.1 hz] at hzb
    have := T.lt (h.l.each y hy) hb
    have := hn b hzb
    omega⟩⟩
end
/-- a copy that shares nothing, owned whole -/
structure CopyO (w w' : World) (x y : Wt) : Prop where
  says : y.says = x.says
  rdy : tWo.Rdy w' y
  new : ∀ b, tWo.In y b → w.heap.size ≤ b
  ext : Ext w w'
theorem CopyO.at {w w' w'' : World} {x y : Wt} (h : CopyO w w' x y) (u : Ext w' w'') : CopyO w w'' x y := ⟨h.says, Thing.at (T := tWo) h.rdy u, h.new, h.ext.trans u⟩

set_option maxHeartbeats 1000000 in
set_option maxRecDepth 100000 in
theorem own_waitingO (x : Wt) (w : World) (hx : x.Rdy w) : Gets Try.prog 47 [x.v] w fun v w' => ∃ y : Wt, v = y.v ∧ CopyO w w' x y := by
  refine ⟨GoFn.h, calls_of_swp 26 Try.func47 Try.ntmps47 rfl (Nat.le_of_ble_eq_true rfl) ?_⟩
  (repeat (first | refine swp_seq ?_ | refine swp_block ?_)); refine swp_region (by kernel_rfl) ?_
  refine w_boxA (by rfl) (by rfl) (by rfl) ?_; intro b1 w1 e1 u1 h1
  have l0 := h1.lt
  refine w_alloc (by rfl) (by rfl) ZeroT.h ?_; intro b2 w2 e2 u2 h2
  replace h1 : Blk w2 b1 40 x.cells := h1.at u2
  have s1 := u1.size; have s2 := u2.size
  refine x_nilw ?_
  have u := u1.trans u2
  have l2 := h2.lt
  (repeat (first | refine swp_seq ?_ | refine swp_block ?_)); refine swp_region (by kernel_rfl) ?_
  repeat (first | refine x_move (by rfl) ?_ | refine x_as (by rfl) (by rfl) ?_ | refine x_skip (by rfl) ?_ | refine x_fld (by rfl) (by rfl) FldO.h ?_ | refine x_nilck (by rfl) (by rfl) ?_ | refine x_len (by rfl) (by rfl) ElOf.some ?_ | refine x_ext (by rfl) (by rfl) (by rfl) ?_ | refine x_pickT (by rfl) (by rfl) (by rfl) ?_ | refine x_pickF (by rfl) (by rfl) (by rfl) ?_ | refine x_add (by rfl) (by rfl) (by rfl) (by omega) ?_ | refine x_sub (by rfl) (by rfl) (by rfl) (by omega) ?_ | refine x_not (by rfl) (by rfl) ?_)
  refine w_load (by rfl) (by rfl) (load_agg (xs := x.m.cells) AggT.h h1 (by rfl) (by rfl)) ?_
  refine w_call (by rfl) (by rfl) (by rfl) (own_match x.m w2 (hx.m.at u) hx.sm) ?_
  rintro _ w3 ⟨y, rfl, hc⟩
  refine x_build (v := .agg [.int .i64 y.dec, .slice y.na y.names.length y.nc, .slice y.la y.lens.length y.lc, .slice y.va y.vals.length y.vc, .slice none 0 0].toArray) (by rfl) (by rfl) (fun _ => by kernel_rfl) ?_
  refine w_alloc (by rfl) (by rfl) ZeroT.h ?_; intro b3 w4 e4 u4 h4
  refine w_store (xs := [.int .i64 y.dec, .slice y.na y.names.length y.nc, .slice y.la y.lens.length y.lc, .slice y.va y.vals.length y.vc, .slice none 0 0]) (by rfl) (by rfl) (by rfl) (by rfl) SzT.h (by rfl) (by rfl) h4 (by simp) ?_
  intro w5 u5 h5 _
  refine x_nilw ?_
  have s3 := hc.ext.size; have s4 := u4.size; have s5 := u5.size
  have u35 : Ext w3 w5 := u4.trans' u5 fun b hb e => by have e' : b = b3 := e; omega
  have u25 := hc.ext.trans u35
  have uw5 := u.trans u25
  replace h5 : Blk w5 b3 40 [.int .i64 y.dec, .slice y.na y.names.length y.nc, .slice y.la y.lens.length y.lc, .slice y.va y.vals.length y.vc, .slice none 0 0] := h5
  have hyo : y.Own w5 := hc.own.get u35 fun _ _ h => h
  have hyn : ∀ b, y.At b → w2.heap.size ≤ b ∧ b < b3 := fun b hb => ⟨hc.new b hb, by have := hc.own.lt hb; omega⟩
  replace h1 := h1.at u25
  replace h2 := h2.at u25
  have rb := hx.rd.at uw5
  have l5 := h5.lt
  refine swp_fit [(1, .pointer (some ⟨b1, 0, none⟩)), (2, .pointer (some ⟨b2, 0, none⟩)), (3, .pointer (some ⟨b3, 0, none⟩))] ⟨rfl, rfl, rfl, trivial⟩ fun ρ => ?_
  (repeat (first | refine swp_seq ?_ | refine swp_block ?_)); refine swp_region (by kernel_rfl) ?_
  repeat (first | refine x_move (by rfl) ?_ | refine x_as (by rfl) (by rfl) ?_ | refine x_skip (by rfl) ?_ | refine x_fld (by rfl) (by rfl) FldO.h ?_ | refine x_nilck (by rfl) (by rfl) ?_ | refine x_len (by rfl) (by rfl) ElOf.some ?_ | refine x_ext (by rfl) (by rfl) (by rfl) ?_ | refine x_pickT (by rfl) (by rfl) (by rfl) ?_ | refine x_pickF (by rfl) (by rfl) (by rfl) ?_ | refine x_add (by rfl) (by rfl) (by rfl) (by omega) ?_ | refine x_sub (by rfl) (by rfl) (by rfl) (by omega) ?_ | refine x_not (by rfl) (by rfl) ?_)
  refine w_load (by rfl) (by rfl) (load_one (v := .slice x.ba x.bs.length x.bc) OneT.h h1 (by rfl)) ?_
  repeat (first | refine x_move (by rfl) ?_ | refine x_as (by rfl) (by rfl) ?_ | refine x_skip (by rfl) ?_ | refine x_fld (by rfl) (by rfl) FldO.h ?_ | refine x_nilck (by rfl) (by rfl) ?_ | refine x_len (by rfl) (by rfl) ElOf.some ?_ | refine x_ext (by rfl) (by rfl) (by rfl) ?_ | refine x_pickT (by rfl) (by rfl) (by rfl) ?_ | refine x_pickF (by rfl) (by rfl) (by rfl) ?_ | refine x_add (by rfl) (by rfl) (by rfl) (by omega) ?_ | refine x_sub (by rfl) (by rfl) (by rfl) (by omega) ?_ | refine x_not (by rfl) (by rfl) ?_)
  refine x_nilw ?_
  refine swp_fit [(1, .pointer (some ⟨b1, 0, none⟩)), (2, .pointer (some ⟨b2, 0, none⟩)), (3, .pointer (some ⟨b3, 0, none⟩)), (11, .slice x.ba x.bs.length x.bc), (12, .int .i64 (x.bs.length : Nat)), (13, .int .i64 ((0 : Nat) : Int))] ⟨rfl, rfl, rfl, rfl, rfl, rfl, trivial⟩ fun ρ => ?_
  (repeat (first | refine swp_seq ?_ | refine swp_block ?_))
  refine swp_loop (fun (i : Nat) σ w6 => ∃ sb out, At σ [(1, .pointer (some ⟨b1, 0, none⟩)), (2, .pointer (some ⟨b2, 0, none⟩)), (3, .pointer (some ⟨b3, 0, none⟩)), (11, .slice x.ba x.bs.length x.bc), (12, .int .i64 (x.bs.length : Nat)), (13, .int .i64 (i : Nat))] ∧ i ≤ x.bs.length ∧ Blk w6 b3 40 [.int .i64 y.dec, .slice y.na y.names.length y.nc, .slice y.la y.lens.length y.lc, .slice y.va y.vals.length y.vc, sb] ∧ Lsp tEo 86 w5 w6 sb out ∧ out.map El.evs = (x.bs.take i).map El.evs ∧ Upd (fun b => b = b3) w5 w6) (fun i => x.bs.length - i) 0 ⟨.slice none 0 0, [], at_ ⟨rfl, rfl, rfl, rfl, rfl, rfl, trivial⟩, by omega, h5, Lsp.nil _ _ _ _, by simp, Upd.refl _ _⟩ ?_
  rintro i σ w6 ⟨sb, out, ⟨ρ, rfl⟩, hi, h6, hL, hev, u6⟩
  have hlo : out.length = i := by have := congrArg List.length hev; simp at this; omega
  have hsb := hx.sb
  have s6 := u6.size
  have hw5 : w.heap.size ≤ b3 := by have := uw5.size; have := u.size; omega
  have rb6 := rb.get0 u6 fun b h0 hb e => by have := hx.rd.lt0 h0 hb; have e' : b = b3 := e; omega
  obtain ⟨asb, csb, rfl⟩ := hL.own.slice
  (repeat (first | refine swp_seq ?_ | refine swp_block ?_)); refine swp_region (by kernel_rfl) ?_
  repeat (first | refine x_move (by rfl) ?_ | refine x_as (by rfl) (by rfl) ?_ | refine x_skip (by rfl) ?_ | refine x_fld (by rfl) (by rfl) FldO.h ?_ | refine w_load (by rfl) (by rfl) (load_one OneT.h (by assumption) (by rfl)) ?_ | refine x_nilck (by rfl) (by rfl) ?_ | refine x_len (by rfl) (by rfl) ElOf.some ?_ | refine x_iface (by rfl) (by rfl) NIf.h ?_ | refine x_ext (by rfl) (by rfl) (by rfl) ?_ | refine x_pickT (by rfl) (by rfl) (by rfl) ?_ | refine x_pickF (by rfl) (by rfl) (by rfl) ?_ | refine x_add (by rfl) (by rfl) (by rfl) (by omega) ?_ | refine x_sub (by rfl) (by rfl) (by rfl) (by omega) ?_ | refine x_lss (by rfl) (by rfl) (by rfl) ?_ | refine x_geq (by rfl) (by rfl) (by rfl) ?_ | refine x_leq (by rfl) (by rfl) (by rfl) ?_ | refine x_gtr (by rfl) (by rfl) (by rfl) ?_ | refine x_eql (by rfl) (by rfl) (by rfl) ?_ | refine x_neq (by rfl) (by rfl) (by rfl) ?_ | refine x_not (by rfl) (by rfl) ?_)
  refine x_nilw ?_
  (repeat (first | refine swp_seq ?_ | refine swp_block ?_))
  refine swp_if (by rfl) (fun h0 => swp_skip ?_) (fun h0 => ?_)
  · have hi' : i < x.bs.length := by omega
    obtain ⟨e, he⟩ := nthE hi'
    have hem := List.mem_of_getElem? he
    have eR := hx.each e hem
    have eR6 : e.Rdy w6 := tEl.get (Thing.at (T := tEl) eR uw5) u6 fun b hb hf => by have := tEl.lt eR hb; have e' : b = b3 := hf; omega
    obtain ⟨p1, o1, d1, he1, -, -⟩ := rb.pos (by omega)
    simp only [Value.slice.injEq] at he1
    obtain ⟨ea1, _, rfl⟩ := he1
    rw [ea1] at rb6 ⊢
    (repeat (first | with_reducible refine n_then ?_ | with_reducible refine n_block ?_ | with_reducible refine n_jump ?_))
    (repeat (first | refine swp_seq ?_ | refine swp_block ?_)); refine swp_region (by kernel_rfl) ?_
    repeat (first | refine x_move (by rfl) ?_ | refine x_as (by rfl) (by rfl) ?_ | refine x_skip (by rfl) ?_ | refine x_fld (by rfl) (by rfl) FldO.h ?_ | refine x_nilck (by rfl) (by rfl) ?_ | refine x_len (by rfl) (by rfl) ElOf.some ?_ | refine x_ext (by rfl) (by rfl) (by rfl) ?_ | refine x_pickT (by rfl) (by rfl) (by rfl) ?_ | refine x_pickF (by rfl) (by rfl) (by rfl) ?_ | refine x_add (by rfl) (by rfl) (by rfl) (by omega) ?_ | refine x_sub (by rfl) (by rfl) (by rfl) (by omega) ?_ | refine x_not (by rfl) (by rfl) ?_)
    refine x_idx i (by rfl) (by rfl) (by rfl) ElSz.h rfl hi' ?_
    refine w_load (by rfl) (by rfl) (load_one_cell OneT.h (rd_cell (v := .slice e.a e.evs.length e.c) (j := 0) el_len rb6 he rfl rfl rfl)) ?_
    repeat (first | refine x_move (by rfl) ?_ | refine x_as (by rfl) (by rfl) ?_ | refine x_skip (by rfl) ?_ | refine x_fld (by rfl) (by rfl) FldO.h ?_ | refine x_nilck (by rfl) (by rfl) ?_ | refine x_len (by rfl) (by rfl) ElOf.some ?_ | refine x_ext (by rfl) (by rfl) (by rfl) ?_ | refine x_pickT (by rfl) (by rfl) (by rfl) ?_ | refine x_pickF (by rfl) (by rfl) (by rfl) ?_ | refine x_add (by rfl) (by rfl) (by rfl) (by omega) ?_ | refine x_sub (by rfl) (by rfl) (by rfl) (by omega) ?_ | refine x_not (by rfl) (by rfl) ?_)
    refine x_nilw ?_
    refine swp_fit [(1, .pointer (some ⟨b1, 0, none⟩)), (2, .pointer (some ⟨b2, 0, none⟩)), (3, .pointer (some ⟨b3, 0, none⟩)), (11, .slice (some ⟨p1, o1, none⟩) x.bs.length x.bc), (12, .int .i64 (x.bs.length : Nat)), (13, .int .i64 (i : Nat)), (5, .slice e.a e.evs.length e.c)] ⟨rfl, rfl, rfl, rfl, rfl, rfl, rfl, trivial⟩ fun ρ => ?_
    (repeat (first | refine swp_seq ?_ | refine swp_block ?_)); refine swp_draw (Ext w6) [1003, 1004] Mixed.h (by kernel_rfl) (by kernel_rfl) (ext_drew w6) ?_
    repeat (first | refine x_move (by rfl) ?_ | refine x_as (by rfl) (by rfl) ?_ | refine x_skip (by rfl) ?_ | refine x_fld (by rfl) (by rfl) FldO.h ?_ | refine x_nilck (by rfl) (by rfl) ?_ | refine x_len (by rfl) (by rfl) ElOf.some ?_ | refine x_ext (by rfl) (by rfl) (by rfl) ?_ | refine x_pickT (by rfl) (by rfl) (by rfl) ?_ | refine x_pickF (by rfl) (by rfl) (by rfl) ?_ | refine x_add (by rfl) (by rfl) (by rfl) (by omega) ?_ | refine x_sub (by rfl) (by rfl) (by rfl) (by omega) ?_ | refine x_not (by rfl) (by rfl) ?_)
    refine q_load (by rfl) (by rfl) (by rfl) (fun w' hw' => load_one OneT.h (h6.at hw') (by rfl)) ?_
    repeat (first | refine x_move (by rfl) ?_ | refine x_as (by rfl) (by rfl) ?_ | refine x_skip (by rfl) ?_ | refine x_fld (by rfl) (by rfl) FldO.h ?_ | refine x_nilck (by rfl) (by rfl) ?_ | refine x_len (by rfl) (by rfl) ElOf.some ?_ | refine x_ext (by rfl) (by rfl) (by rfl) ?_ | refine x_pickT (by rfl) (by rfl) (by rfl) ?_ | refine x_pickF (by rfl) (by rfl) (by rfl) ?_ | refine x_add (by rfl) (by rfl) (by rfl) (by omega) ?_ | refine x_sub (by rfl) (by rfl) (by rfl) (by omega) ?_ | refine x_not (by rfl) (by rfl) ?_)
    refine f_appendN (news := fl Ev.cells e.evs) (by rfl) (by rfl) (by rfl) (by rfl) SlC.h (fl_one'' (fun _ => rfl) e.evs) (room_of eR.sm (by omega)) (fun _ _ h u => Upd.trans h u) (fun w' hw' => eR6.rd.at hw') ?_
    intro v1 se v2 q1 owne q2 hne
    obtain ⟨ae, ce, rfl⟩ := owne.slice
    refine f_bslice (e := 86) (cs := [.slice ae e.evs.length ce]) (by rfl) (by rfl) (by rfl) (by kernel_rfl) (fun _ _ h u => Upd.trans h u) ?_
    intro v3 c4 v4 q3 f4 q4 k4
    refine x_fix (by rfl) (by rfl) (by rfl) fun v5 q5 => ?_
    have q25 := (q3.trans q4).trans q5
    have q65 := (q1.trans q2).trans q25
    refine w_append (more := []) (news := [.slice ae e.evs.length ce]) (by rfl) (by rfl) (by rfl) (by rfl) SlC.h (hL.own.at q65) (by rw [List.append_nil]; exact k4.at q5) (by rfl) (by rfl) (by omega) ((room_of hx.sb (by omega)).le (by omega)) ?_
    intro sb' v6 own' q6 in'
    obtain ⟨as', cs', rfl⟩ := own'.slice
    repeat (first | refine x_move (by rfl) ?_ | refine x_as (by rfl) (by rfl) ?_ | refine x_skip (by rfl) ?_ | refine x_fld (by rfl) (by rfl) FldO.h ?_ | refine x_nilck (by rfl) (by rfl) ?_ | refine x_len (by rfl) (by rfl) ElOf.some ?_ | refine x_ext (by rfl) (by rfl) (by rfl) ?_ | refine x_pickT (by rfl) (by rfl) (by rfl) ?_ | refine x_pickF (by rfl) (by rfl) (by rfl) ?_ | refine x_add (by rfl) (by rfl) (by rfl) (by omega) ?_ | refine x_sub (by rfl) (by rfl) (by rfl) (by omega) ?_ | refine x_not (by rfl) (by rfl) ?_)
    have s65 := q65.size
    refine w_store (xs := [.slice as' (out.length + 1) cs']) (by rfl) (by rfl) (by rfl) (by rfl) SzT.h (by rfl) (by rfl) ((h6.at q65).get q6 fun h => by have := hL.new b3 h; omega) (by simp) ?_
    intro v7 q7 h7 _
    refine x_nilw ?_
    replace h7 : Blk v7 b3 40 [.int .i64 y.dec, .slice y.na y.names.length y.nc, .slice y.la y.lens.length y.lc, .slice y.va y.vals.length y.vc, .slice as' (out.length + 1) cs'] := h7
    have sq1 := q1.size
    have hL' := hL.push (T := tEo) (r := ⟨ae, ce, e.evs⟩) (w1 := v5) s6 ⟨owne.at q25, eR.sm⟩ (fun b hb => by have := hne b hb; omega) q65 own' q6 in'
    have s6' := q6.size
    have hL7 := hL'.get q7 fun b hb _ hf => by have e' : b = b3 := hf; omega
    (repeat (first | with_reducible refine n_then ?_ | with_reducible refine n_block ?_ | with_reducible refine n_jump ?_))
    (repeat (first | refine swp_seq ?_ | refine swp_block ?_)); refine swp_region (by kernel_rfl) ?_
    repeat (first | refine x_move (by rfl) ?_ | refine x_as (by rfl) (by rfl) ?_ | refine x_skip (by rfl) ?_ | refine x_fld (by rfl) (by rfl) FldO.h ?_ | refine w_load (by rfl) (by rfl) (load_one OneT.h (by assumption) (by rfl)) ?_ | refine x_nilck (by rfl) (by rfl) ?_ | refine x_len (by rfl) (by rfl) ElOf.some ?_ | refine x_iface (by rfl) (by rfl) NIf.h ?_ | refine x_ext (by rfl) (by rfl) (by rfl) ?_ | refine x_pickT (by rfl) (by rfl) (by rfl) ?_ | refine x_pickF (by rfl) (by rfl) (by rfl) ?_ | refine x_add (by rfl) (by rfl) (by rfl) (by omega) ?_ | refine x_sub (by rfl) (by rfl) (by rfl) (by omega) ?_ | refine x_lss (by rfl) (by rfl) (by rfl) ?_ | refine x_geq (by rfl) (by rfl) (by rfl) ?_ | refine x_leq (by rfl) (by rfl) (by rfl) ?_ | refine x_gtr (by rfl) (by rfl) (by rfl) ?_ | refine x_eql (by rfl) (by rfl) (by rfl) ?_ | refine x_neq (by rfl) (by rfl) (by rfl) ?_ | refine x_not (by rfl) (by rfl) ?_)
    refine x_nilw ?_
    have hlo' : out.length = i := hlo
    refine ⟨i + 1, ⟨_, _, at_ ⟨rfl, rfl, rfl, rfl, rfl, rfl, trivial⟩, hi', h7, hL7, by rw [List.map_append, hev, take_succ' he, List.map_append]; rfl, ((u6.ext q65).trans' q6 fun b hb h => by have := hL.new b h; omega).trans' q7 fun b _ h => h⟩, by omega⟩
  · have hin : i = x.bs.length := by omega
    rw [hin, List.take_length] at hev
    refine swp_exit ?_; (repeat (first | with_reducible refine e_then ?_ | with_reducible refine e_jump ?_)); refine e_block ?_; (repeat (first | with_reducible refine n_then ?_ | with_reducible refine n_block ?_ | with_reducible refine n_jump ?_))
    refine swp_fit [(2, .pointer (some ⟨b2, 0, none⟩)), (3, .pointer (some ⟨b3, 0, none⟩))] ⟨rfl, rfl, trivial⟩ fun ρ => ?_
    obtain ⟨z, hz⟩ : ∃ z : Wt, z = ⟨y, asb, csb, out⟩ := ⟨_, rfl⟩
    have hzc : z.cells = [.int .i64 y.dec, .slice y.na y.names.length y.nc, .slice y.la y.lens.length y.lc, .slice y.va y.vals.length y.vc, .slice asb out.length csb] := by rw [hz]; rfl
    rw [← hzc] at h6
    have h26 := h2.get u6 (by omega)
    (repeat (first | refine swp_seq ?_ | refine swp_block ?_)); refine swp_region (by kernel_rfl) ?_
    refine w_load (by rfl) (by rfl) (load_agg (xs := z.cells) AggT.h h6 (by rfl) (by rfl)) ?_
    refine w_store (xs := z.cells) (by rfl) (by rfl) (by rfl) (by rfl) SzT.h (by rfl) (by rfl) h26 (by simp) ?_
    intro w7 u7 h7 _
    refine x_nilw ?_
    refine swp_ret ?_; (repeat (first | with_reducible refine r_then ?_ | with_reducible refine r_block ?_ | with_reducible refine r_jump ?_))
    have hy6 : y.Own w6 := hyo.get u6 fun b hb e => by have := (hyn b hb).2; have e' : b = b3 := e; omega
    have hlb : out.length * 24 ≤ 140737488351232 := by rw [hlo, hin]; exact hx.sb
    have hz6 : z.as.P w6 := by
      rw [hz]
      exact wt_star hy6 hL.own hL.each hL.pw (fun b hb hb' => by have := (hyn b hb).2; have := hL.new b hb'; omega) hL.ap (fun e he b hb hb' => by have := (hyn b hb).2; have := hL.newE e he b hb'; omega) hlb
    have hzn : ∀ b, z.as.In b → w2.heap.size ≤ b := fun b hb => by
      rw [hz] at hb
      obtain ⟨c, hc, hb⟩ := hb
      simp only [Wt.parts, List.mem_cons, List.mem_nil_iff, or_false] at hc
      have s25 := u25.size
      rcases hc with rfl | rfl | rfl | rfl | rfl
      · exact (hyn b (.inl hb)).1
      · exact (hyn b (.inr (.inl hb))).1
      · exact (hyn b (.inr (.inr hb))).1
      · have := hL.new b hb; omega
      · obtain ⟨c, hc, hcb⟩ := hb
        obtain ⟨e, he, rfl⟩ := List.mem_map.1 hc
        have := hL.newE e he b hcb; omega
    have su := u.size
    refine postC1 rfl rfl (load_agg (xs := z.cells) AggT.h h7 (by rfl) (by rfl)) ⟨_, rfl, z, rfl, ?_, Thing.get tWo (x := z) hz6 u7 fun b hb e => by have := hzn b hb; have e' : b = b2 := e; omega, fun b hb => by have := hzn b hb; omega, ?_⟩
    · rw [hz, Wt.says, Wt.says, hev, hc.says]
    · exact (uw5.trans' u6 fun b hb e => by have e' : b = b3 := e; omega).trans' u7 fun b hb e => by have e' : b = b2 := e; omega
end Go.Proofs.Ytpnigekkbmanlaa
