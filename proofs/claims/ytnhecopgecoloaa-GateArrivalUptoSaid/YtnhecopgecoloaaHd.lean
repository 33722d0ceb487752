/- GateArrival's walk: it answers true. No conditions but Go's own on lengths. -/
import Derived.Test.YtnhecopgecoloaaHc
namespace Go.Proofs.Ytnhecopgecoloaa
open Hp Sx

structure Ep where
  sl : Value
  mark : Int
def Ep.cells (e : Ep) : List Value := [e.sl, .int .i64 e.mark]
theorem ep_len (e : Ep) : e.cells.length = 2 := rfl
/-- a list beside two gates -/
structure Ls (w : World) (bg r bp : Nat) (sp : Value) (bh rh bq : Nat) (sq : Value) (v : Value) (xs : List Ev) : Prop where
  own : Own w 30 11 v xs.length (fl Ev.cells xs)
  fr : ∀ b, isIn v b → ¬ gfoot bg r bp sp b ∧ ¬ gfoot bh rh bq sq b
section
variable {w0 w w' : World} {bg r bp bh rh bq : Nat} {sp sq sp' : Value} {g h : GS} {n : Nat} {v : Value} {xs : List Ev}
theorem Ls.symm (l : Ls w bg r bp sp bh rh bq sq v xs) : Ls w bh rh bq sq bg r bp sp v xs := ⟨l.own, fun b hb => ⟨(l.fr b hb).2, (l.fr b hb).1⟩⟩
theorem Ls.at (l : Ls w bg r bp sp bh rh bq sq v xs) (u : Ext w w') : Ls w' bg r bp sp bh rh bq sq v xs := ⟨l.own.at u, l.fr⟩
theorem Ls.turn (l : Ls w bg r bp sp bh rh bq sq v xs) (u : Upd (gfoot bg r bp sp) w w') (hin : ∀ b, gfoot bg r bp sp' b → gfoot bg r bp sp b ∨ w.heap.size ≤ b) : Ls w' bg r bp sp' bh rh bq sq v xs :=
  ⟨l.own.get u fun b hb hf => (l.fr b hb).1 hf, fun b hb => ⟨fun hf => (hin b hf).elim (l.fr b hb).1 fun h => by have := l.own.lt hb; omega, (l.fr b hb).2⟩⟩
theorem Ls.new (p : Pr w0 w bg r bp sp bh rh bq sq g h n) (own : Own w' 30 11 v xs.length (fl Ev.cells xs)) (hf : ∀ b, isIn v b → w.heap.size ≤ b) : Ls w' bg r bp sp bh rh bq sq v xs :=
  ⟨own, fun b hb => ⟨fun h => by have := p.lta h; have := hf b hb; omega, fun h => by have := p.ltb h; have := hf b hb; omega⟩⟩
theorem pr_push' (e : Ev) (p : Pr w0 w bg r bp sp bh rh bq sq g h n) (hn : n ≤ 4611686018427387903) : Gets Try.prog 12 [.pointer (some ⟨bg, 0, none⟩), e.v] w fun v w' =>
    v = .int .i64 (g.pcode e) ∧ ∃ sp', Pr w0 w' bg r bp sp' bh rh bq sq (g.push e) h (n + 1) ∧ Upd (gfoot bg r bp sp) w w' ∧ ∀ b, gfoot bg r bp sp' b → gfoot bg r bp sp b ∨ w.heap.size ≤ b := by
  obtain ⟨N, hN, ha⟩ := p.a
  obtain ⟨M, hM, hb⟩ := p.b
  refine (g_push e ha p.oa (by omega)).mono fun v w' ⟨hv, sp', N', g', hN', u, hin⟩ => ⟨hv, sp', ?_, u, hin⟩
  have s0 := p.u.size
  refine ⟨⟨N', by omega, g'⟩, ⟨M, by omega, hb.get u fun x hx hf => p.d x hf hx⟩, fun x hx hx' => ?_, fun x hx => ?_, p.fb, GS.push_ok p.oa e, p.ob, p.u.trans' u fun b hb hf => by have := p.fa b hf; omega⟩
  · rcases hin x hx with hf | hf
    · exact p.d x hf hx'
    · have := hb.lt hx'; omega
  · rcases hin x hx with hf | hf
    · exact p.fa x hf
    · omega
end
def evM : Ev := ⟨maxT, 7, 0, 0, 0, 0, 0, 0, 0, 0, 0⟩
theorem evM_first : (fresh 4096).pcode evM = 0 := by
  refine pcode0 rfl ⟨by simp [evM, minT, maxT], by simp [evM]⟩ (by simp [evM, fresh, maxT, noM]) (by simp [fresh]) ?_
  simp [fresh]
/-- the count of those that are taken -/
def cnt (g : GS) (L : List Ev) : Int := ((L.filter (okB g)).length : Nat)
theorem cnt_succ {g : GS} {L : List Ev} {j : Nat} {x : Ev} (h : L[j]? = some x) : cnt g (L.take (j + 1)) = cnt g (L.take j) + (if okB g x then 1 else 0) := by
  unfold cnt
  rw [filter_take h, List.length_append]
  cases okB g x <;> simp
theorem cnt_le (g : GS) (L : List Ev) (j : Nat) : 0 ≤ cnt g (L.take j) ∧ cnt g (L.take j) ≤ (j : Int) := by
  have := filter_len (okB g) L j
  unfold cnt
  omega

set_option maxHeartbeats 8000000 in
set_option maxRecDepth 100000 in
theorem walk4 {w : World} {sv : Value} {eps : List Ep} (k d : Int) (h : Rd w 2 sv eps.length (fl Ep.cells eps)) (hE : ∀ e ∈ eps, ∃ evs : List Ev, Rd w 11 e.sl evs.length (fl Ev.cells evs) ∧ evs.length ≤ 9223372036854775807) (hl : eps.length ≤ 9223372036854775807) :
    Gets Try.prog 4 [sv, .int .i64 k, .int .i64 d] w fun v w' => v = .bool true ∧ Ext w w' := by
  obtain ⟨a0, c0, rfl⟩ := h.slice
  refine ⟨GoFn.h, calls_of_swp 211 Try.func4 Try.ntmps4 rfl (Nat.le_of_ble_eq_true rfl) ?_⟩
  (repeat (first | refine swp_seq ?_ | refine swp_block ?_)); refine swp_region (by kernel_rfl) ?_
  repeat (first | refine x_move (by rfl) ?_ | refine x_as (by rfl) (by rfl) ?_ | refine x_skip (by rfl) ?_ | refine x_fld (by rfl) (by rfl) FldO.h ?_ | refine x_nilck (by rfl) (by rfl) ?_ | refine x_len (by rfl) (by rfl) ElOf.some ?_ | refine x_ext (by rfl) (by rfl) (by rfl) ?_ | refine x_pickT (by rfl) (by rfl) (by rfl) ?_ | refine x_pickF (by rfl) (by rfl) (by rfl) ?_ | refine x_add (by rfl) (by rfl) (by rfl) (by omega) ?_ | refine x_sub (by rfl) (by rfl) (by rfl) (by omega) ?_ | refine x_not (by rfl) (by rfl) ?_)
  refine x_nilw ?_
  (repeat (first | refine swp_seq ?_ | refine swp_block ?_)); refine swp_region (by kernel_rfl) ?_
  refine w_call (by rfl) (by rfl) (by rfl) (g_new 4096 w) ?_
  rintro _ w1 (⟨hc, _⟩ | ⟨hc, bg, r, bp, sp, rfl, g1, hf1, u1⟩)
  · exact absurd ⟨by omega, by omega⟩ hc
  repeat (first | refine x_move (by rfl) ?_ | refine x_as (by rfl) (by rfl) ?_ | refine x_skip (by rfl) ?_ | refine x_fld (by rfl) (by rfl) FldO.h ?_ | refine x_nilck (by rfl) (by rfl) ?_ | refine x_len (by rfl) (by rfl) ElOf.some ?_ | refine x_ext (by rfl) (by rfl) (by rfl) ?_ | refine x_pickT (by rfl) (by rfl) (by rfl) ?_ | refine x_pickF (by rfl) (by rfl) (by rfl) ?_ | refine x_add (by rfl) (by rfl) (by rfl) (by omega) ?_ | refine x_sub (by rfl) (by rfl) (by rfl) (by omega) ?_ | refine x_not (by rfl) (by rfl) ?_)
  refine x_nilw ?_
  (repeat (first | refine swp_seq ?_ | refine swp_block ?_)); refine swp_region (by kernel_rfl) ?_
  refine w_call (by rfl) (by rfl) (by rfl) (g_new 4096 w1) ?_
  rintro _ w2 (⟨hc2, _⟩ | ⟨hc2, bh, rh, bq, sq, rfl, g2, hf2, u2⟩)
  · exact absurd ⟨by omega, by omega⟩ hc2
  repeat (first | refine x_move (by rfl) ?_ | refine x_as (by rfl) (by rfl) ?_ | refine x_skip (by rfl) ?_ | refine x_fld (by rfl) (by rfl) FldO.h ?_ | refine x_nilck (by rfl) (by rfl) ?_ | refine x_len (by rfl) (by rfl) ElOf.some ?_ | refine x_ext (by rfl) (by rfl) (by rfl) ?_ | refine x_pickT (by rfl) (by rfl) (by rfl) ?_ | refine x_pickF (by rfl) (by rfl) (by rfl) ?_ | refine x_add (by rfl) (by rfl) (by rfl) (by omega) ?_ | refine x_sub (by rfl) (by rfl) (by rfl) (by omega) ?_ | refine x_not (by rfl) (by rfl) ?_)
  refine x_nilw ?_
  have p2 := pr_new hc hc2 u1 g1 hf1 u2 g2 hf2
  refine swp_fit [(0, .slice a0 eps.length c0), (1, .int .i64 k), (2, .int .i64 d), (7, .pointer (some ⟨bg, 0, none⟩)), (8, .int .i64 0), (9, .pointer (some ⟨bh, 0, none⟩)), (10, .int .i64 0)] ⟨rfl, rfl, rfl, rfl, rfl, rfl, rfl, trivial⟩ fun ρ => ?_
  (repeat (first | refine swp_seq ?_ | refine swp_block ?_)); refine swp_region (by kernel_rfl) ?_
  repeat (first | refine x_move (by rfl) ?_ | refine x_as (by rfl) (by rfl) ?_ | refine x_skip (by rfl) ?_ | refine x_fld (by rfl) (by rfl) FldO.h ?_ | refine x_nilck (by rfl) (by rfl) ?_ | refine x_len (by rfl) (by rfl) ElOf.some ?_ | refine x_ext (by rfl) (by rfl) (by rfl) ?_ | refine x_pickT (by rfl) (by rfl) (by rfl) ?_ | refine x_pickF (by rfl) (by rfl) (by rfl) ?_ | refine x_add (by rfl) (by rfl) (by rfl) (by omega) ?_ | refine x_sub (by rfl) (by rfl) (by rfl) (by omega) ?_ | refine x_not (by rfl) (by rfl) ?_)
  refine x_neqF (by rfl) (by rfl) (by rfl) (fun h => h rfl) ?_
  repeat (first | refine x_move (by rfl) ?_ | refine x_as (by rfl) (by rfl) ?_ | refine x_skip (by rfl) ?_ | refine x_fld (by rfl) (by rfl) FldO.h ?_ | refine x_nilck (by rfl) (by rfl) ?_ | refine x_len (by rfl) (by rfl) ElOf.some ?_ | refine x_ext (by rfl) (by rfl) (by rfl) ?_ | refine x_pickT (by rfl) (by rfl) (by rfl) ?_ | refine x_pickF (by rfl) (by rfl) (by rfl) ?_ | refine x_add (by rfl) (by rfl) (by rfl) (by omega) ?_ | refine x_sub (by rfl) (by rfl) (by rfl) (by omega) ?_ | refine x_not (by rfl) (by rfl) ?_)
  refine x_neqF (by rfl) (by rfl) (by rfl) (fun h => h rfl) ?_
  repeat (first | refine x_move (by rfl) ?_ | refine x_as (by rfl) (by rfl) ?_ | refine x_skip (by rfl) ?_ | refine x_fld (by rfl) (by rfl) FldO.h ?_ | refine x_nilck (by rfl) (by rfl) ?_ | refine x_len (by rfl) (by rfl) ElOf.some ?_ | refine x_ext (by rfl) (by rfl) (by rfl) ?_ | refine x_pickT (by rfl) (by rfl) (by rfl) ?_ | refine x_pickF (by rfl) (by rfl) (by rfl) ?_ | refine x_add (by rfl) (by rfl) (by rfl) (by omega) ?_ | refine x_sub (by rfl) (by rfl) (by rfl) (by omega) ?_ | refine x_not (by rfl) (by rfl) ?_)
  refine x_eqlP Try.underlying22 (by rfl) (by rfl) (by rfl) ?_
  repeat (first | refine x_move (by rfl) ?_ | refine x_as (by rfl) (by rfl) ?_ | refine x_skip (by rfl) ?_ | refine x_fld (by rfl) (by rfl) FldO.h ?_ | refine x_nilck (by rfl) (by rfl) ?_ | refine x_len (by rfl) (by rfl) ElOf.some ?_ | refine x_ext (by rfl) (by rfl) (by rfl) ?_ | refine x_pickT (by rfl) (by rfl) (by rfl) ?_ | refine x_pickF (by rfl) (by rfl) (by rfl) ?_ | refine x_add (by rfl) (by rfl) (by rfl) (by omega) ?_ | refine x_sub (by rfl) (by rfl) (by rfl) (by omega) ?_ | refine x_not (by rfl) (by rfl) ?_)
  refine x_eqlP Try.underlying22 (by rfl) (by rfl) (by rfl) ?_
  repeat (first | refine x_move (by rfl) ?_ | refine x_as (by rfl) (by rfl) ?_ | refine x_skip (by rfl) ?_ | refine x_fld (by rfl) (by rfl) FldO.h ?_ | refine x_nilck (by rfl) (by rfl) ?_ | refine x_len (by rfl) (by rfl) ElOf.some ?_ | refine x_ext (by rfl) (by rfl) (by rfl) ?_ | refine x_pickT (by rfl) (by rfl) (by rfl) ?_ | refine x_pickF (by rfl) (by rfl) (by rfl) ?_ | refine x_add (by rfl) (by rfl) (by rfl) (by omega) ?_ | refine x_sub (by rfl) (by rfl) (by rfl) (by omega) ?_ | refine x_not (by rfl) (by rfl) ?_)
  refine x_build (v := evM.v) (by rfl) (by rfl) (fun _ => by kernel_rfl) ?_
  refine w_call (by rfl) (by rfl) (by rfl) (pr_push evM p2 (by omega)) ?_
  rintro _ w3 ⟨rfl, sp3, p3, _⟩
  rw [evM_first]
  refine x_neqF (by rfl) (by rfl) (by rfl) (fun h => h rfl) ?_
  repeat (first | refine x_move (by rfl) ?_ | refine x_as (by rfl) (by rfl) ?_ | refine x_skip (by rfl) ?_ | refine x_fld (by rfl) (by rfl) FldO.h ?_ | refine x_nilck (by rfl) (by rfl) ?_ | refine x_len (by rfl) (by rfl) ElOf.some ?_ | refine x_ext (by rfl) (by rfl) (by rfl) ?_ | refine x_pickT (by rfl) (by rfl) (by rfl) ?_ | refine x_pickF (by rfl) (by rfl) (by rfl) ?_ | refine x_add (by rfl) (by rfl) (by rfl) (by omega) ?_ | refine x_sub (by rfl) (by rfl) (by rfl) (by omega) ?_ | refine x_not (by rfl) (by rfl) ?_)
  refine x_build (v := evM.v) (by rfl) (by rfl) (fun _ => by kernel_rfl) ?_
  refine w_call (by rfl) (by rfl) (by rfl) (pr_push evM p3.symm (by omega)) ?_
  rintro _ w4 ⟨rfl, sq4, p4, _⟩
  rw [evM_first]
  refine x_neqF (by rfl) (by rfl) (by rfl) (fun h => h rfl) ?_
  repeat (first | refine x_move (by rfl) ?_ | refine x_as (by rfl) (by rfl) ?_ | refine x_skip (by rfl) ?_ | refine x_fld (by rfl) (by rfl) FldO.h ?_ | refine x_nilck (by rfl) (by rfl) ?_ | refine x_len (by rfl) (by rfl) ElOf.some ?_ | refine x_ext (by rfl) (by rfl) (by rfl) ?_ | refine x_pickT (by rfl) (by rfl) (by rfl) ?_ | refine x_pickF (by rfl) (by rfl) (by rfl) ?_ | refine x_add (by rfl) (by rfl) (by rfl) (by omega) ?_ | refine x_sub (by rfl) (by rfl) (by rfl) (by omega) ?_ | refine x_not (by rfl) (by rfl) ?_)
  refine x_nilw ?_
  (repeat (first | refine swp_seq ?_ | refine swp_block ?_))
  refine swp_false (by rfl) (swp_skip ?_)
  (repeat (first | with_reducible refine n_then ?_ | with_reducible refine n_block ?_ | with_reducible refine n_jump ?_))
  replace p4 := p4.symm
  have hS1 : ((fresh 4096).push evM).S = [evM] := by unfold GS.push; rw [if_pos evM_first]; rfl
  obtain ⟨k1, k2, k3, _⟩ := push_keep (fresh 4096) evM
  refine swp_fit [(0, .slice a0 eps.length c0), (1, .int .i64 k), (2, .int .i64 d), (7, .pointer (some ⟨bg, 0, none⟩)), (9, .pointer (some ⟨bh, 0, none⟩))] ⟨rfl, rfl, rfl, rfl, rfl, trivial⟩ fun ρ => ?_
  (repeat (first | refine swp_seq ?_ | refine swp_block ?_)); refine swp_region (by kernel_rfl) ?_
  repeat (first | refine x_move (by rfl) ?_ | refine x_as (by rfl) (by rfl) ?_ | refine x_skip (by rfl) ?_ | refine x_fld (by rfl) (by rfl) FldO.h ?_ | refine x_nilck (by rfl) (by rfl) ?_ | refine x_len (by rfl) (by rfl) ElOf.some ?_ | refine x_ext (by rfl) (by rfl) (by rfl) ?_ | refine x_pickT (by rfl) (by rfl) (by rfl) ?_ | refine x_pickF (by rfl) (by rfl) (by rfl) ?_ | refine x_add (by rfl) (by rfl) (by rfl) (by omega) ?_ | refine x_sub (by rfl) (by rfl) (by rfl) (by omega) ?_ | refine x_not (by rfl) (by rfl) ?_)
  refine x_nilw ?_
  (repeat (first | refine swp_seq ?_ | refine swp_block ?_)); refine swp_region (by kernel_rfl) ?_
  repeat (first | refine x_move (by rfl) ?_ | refine x_as (by rfl) (by rfl) ?_ | refine x_skip (by rfl) ?_ | refine x_fld (by rfl) (by rfl) FldO.h ?_ | refine x_nilck (by rfl) (by rfl) ?_ | refine x_len (by rfl) (by rfl) ElOf.some ?_ | refine x_ext (by rfl) (by rfl) (by rfl) ?_ | refine x_pickT (by rfl) (by rfl) (by rfl) ?_ | refine x_pickF (by rfl) (by rfl) (by rfl) ?_ | refine x_add (by rfl) (by rfl) (by rfl) (by omega) ?_ | refine x_sub (by rfl) (by rfl) (by rfl) (by omega) ?_ | refine x_not (by rfl) (by rfl) ?_)
  refine x_nilw ?_
  (repeat (first | refine swp_seq ?_ | refine swp_block ?_)); refine swp_region (by kernel_rfl) ?_
  repeat (first | refine x_move (by rfl) ?_ | refine x_as (by rfl) (by rfl) ?_ | refine x_skip (by rfl) ?_ | refine x_fld (by rfl) (by rfl) FldO.h ?_ | refine x_nilck (by rfl) (by rfl) ?_ | refine x_len (by rfl) (by rfl) ElOf.some ?_ | refine x_ext (by rfl) (by rfl) (by rfl) ?_ | refine x_pickT (by rfl) (by rfl) (by rfl) ?_ | refine x_pickF (by rfl) (by rfl) (by rfl) ?_ | refine x_add (by rfl) (by rfl) (by rfl) (by omega) ?_ | refine x_sub (by rfl) (by rfl) (by rfl) (by omega) ?_ | refine x_not (by rfl) (by rfl) ?_)
  refine x_nilw ?_
  (repeat (first | refine swp_seq ?_ | refine swp_block ?_))
  refine swp_loop (fun (i : Nat) σ w5 => ∃ sp5 sq5 g hd tv told, At σ [(0, .slice a0 eps.length c0), (1, .int .i64 k), (2, .int .i64 d), (7, .pointer (some ⟨bg, 0, none⟩)), (9, .pointer (some ⟨bh, 0, none⟩)), (11, .int .i64 (hd : Nat)), (12, tv), (13, .int .i64 (i : Nat))] ∧ i ≤ eps.length ∧ Pr w w5 bg r bp sp5 bh rh bq sq5 g g (2 * hd + 2) ∧ g.shut = false ∧ g.cap = 4096 ∧ told.length + g.S.length ≤ hd ∧ hd ≤ 4096 ∧ Ls w5 bg r bp sp5 bh rh bq sq5 tv told ∧ (∀ b, isIn tv b → w.heap.size ≤ b) ∧ (evM ∈ told ∨ evM ∈ g.S)) (fun i => eps.length - i) 0 ⟨sp3, sq4, _, 1, .slice none 0 0, [], at_ ⟨rfl, rfl, rfl, rfl, rfl, rfl, rfl, rfl, trivial⟩, by omega, p4.le (by omega), k1, k3, by rw [hS1]; simp, by omega, ⟨Own.nil _ _ _, fun b hb => hb.elim⟩, fun b hb => hb.elim, .inr (by rw [hS1]; simp)⟩ ?_
  rintro i σ w5 ⟨sp5, sq5, g, hd, tv, told, ⟨ρ, rfl⟩, hi, p5, hsh, hcap, htl, hhd, ls5, htv, hM⟩
  have r5 := h.at p5.u
  (repeat (first | refine swp_seq ?_ | refine swp_block ?_)); refine swp_region (by kernel_rfl) ?_
  repeat (first | refine x_move (by rfl) ?_ | refine x_as (by rfl) (by rfl) ?_ | refine x_skip (by rfl) ?_ | refine x_fld (by rfl) (by rfl) FldO.h ?_ | refine w_load (by rfl) (by rfl) (load_one OneT.h (by assumption) (by rfl)) ?_ | refine x_nilck (by rfl) (by rfl) ?_ | refine x_len (by rfl) (by rfl) ElOf.some ?_ | refine x_iface (by rfl) (by rfl) NIf.h ?_ | refine x_ext (by rfl) (by rfl) (by rfl) ?_ | refine x_pickT (by rfl) (by rfl) (by rfl) ?_ | refine x_pickF (by rfl) (by rfl) (by rfl) ?_ | refine x_add (by rfl) (by rfl) (by rfl) (by omega) ?_ | refine x_sub (by rfl) (by rfl) (by rfl) (by omega) ?_ | refine x_lss (by rfl) (by rfl) (by rfl) ?_ | refine x_geq (by rfl) (by rfl) (by rfl) ?_ | refine x_leq (by rfl) (by rfl) (by rfl) ?_ | refine x_gtr (by rfl) (by rfl) (by rfl) ?_ | refine x_eql (by rfl) (by rfl) (by rfl) ?_ | refine x_neq (by rfl) (by rfl) (by rfl) ?_ | refine x_not (by rfl) (by rfl) ?_)
  refine x_nilw ?_
  (repeat (first | refine swp_seq ?_ | refine swp_block ?_))
  refine swp_if (by rfl) (fun h0 => swp_skip ?_) (fun h0 => ?_)
  · have hi' : i < eps.length := by omega
    obtain ⟨ep, hep⟩ := nthE hi'
    obtain ⟨evs, hev, hevl⟩ := hE ep (List.mem_of_getElem? hep)
    obtain ⟨b1, o1, d1, he1, -, -⟩ := h.pos (by omega)
    simp only [Value.slice.injEq] at he1
    obtain ⟨rfl, _, rfl⟩ := he1
    obtain ⟨ea, ec, hsl⟩ := hev.slice
    rw [hsl] at hev
    have ldsl : ∀ {w' : World} {off : Nat}, Ext w w' → off = o1 + i * 2 + 0 → (loadVar 32 ⟨b1, off, none⟩).run Try.prog w' = .ok (.slice ea evs.length ec) w' := fun u ho => load_one_cell OneT.h (rd_cell (j := 0) ep_len (h.at u) hep (by rw [← hsl]; rfl) rfl ho)
    (repeat (first | with_reducible refine n_then ?_ | with_reducible refine n_block ?_ | with_reducible refine n_jump ?_))
    (repeat (first | refine swp_seq ?_ | refine swp_block ?_)); refine swp_region (by kernel_rfl) ?_
    repeat (first | refine x_move (by rfl) ?_ | refine x_as (by rfl) (by rfl) ?_ | refine x_skip (by rfl) ?_ | refine x_fld (by rfl) (by rfl) FldO.h ?_ | refine x_nilck (by rfl) (by rfl) ?_ | refine x_len (by rfl) (by rfl) ElOf.some ?_ | refine x_ext (by rfl) (by rfl) (by rfl) ?_ | refine x_pickT (by rfl) (by rfl) (by rfl) ?_ | refine x_pickF (by rfl) (by rfl) (by rfl) ?_ | refine x_add (by rfl) (by rfl) (by rfl) (by omega) ?_ | refine x_sub (by rfl) (by rfl) (by rfl) (by omega) ?_ | refine x_not (by rfl) (by rfl) ?_)
    refine x_nilw ?_
    (repeat (first | refine swp_seq ?_ | refine swp_block ?_)); refine swp_region (by kernel_rfl) ?_
    repeat (first | refine x_move (by rfl) ?_ | refine x_as (by rfl) (by rfl) ?_ | refine x_skip (by rfl) ?_ | refine x_fld (by rfl) (by rfl) FldO.h ?_ | refine x_nilck (by rfl) (by rfl) ?_ | refine x_len (by rfl) (by rfl) ElOf.some ?_ | refine x_ext (by rfl) (by rfl) (by rfl) ?_ | refine x_pickT (by rfl) (by rfl) (by rfl) ?_ | refine x_pickF (by rfl) (by rfl) (by rfl) ?_ | refine x_add (by rfl) (by rfl) (by rfl) (by omega) ?_ | refine x_sub (by rfl) (by rfl) (by rfl) (by omega) ?_ | refine x_not (by rfl) (by rfl) ?_)
    refine x_nilw ?_
    refine swp_fit [(0, .slice (some ⟨b1, o1, none⟩) eps.length c0), (1, .int .i64 k), (2, .int .i64 d), (7, .pointer (some ⟨bg, 0, none⟩)), (9, .pointer (some ⟨bh, 0, none⟩)), (11, .int .i64 (hd : Nat)), (12, tv), (13, .int .i64 (i : Nat)), (14, .slice none 0 0), (15, .int .i64 0)] ⟨rfl, rfl, rfl, rfl, rfl, rfl, rfl, rfl, rfl, rfl, trivial⟩ fun ρ => ?_
    (repeat (first | refine swp_seq ?_ | refine swp_block ?_))
    refine swp_loop (fun (j : Nat) σ w6 => ∃ ov O, At σ [(0, .slice (some ⟨b1, o1, none⟩) eps.length c0), (1, .int .i64 k), (2, .int .i64 d), (7, .pointer (some ⟨bg, 0, none⟩)), (9, .pointer (some ⟨bh, 0, none⟩)), (11, .int .i64 (hd : Nat)), (12, tv), (13, .int .i64 (i : Nat)), (14, ov), (15, .int .i64 (j : Nat))] ∧ j ≤ evs.length ∧ Unl O ∧ hd + O.length ≤ 4096 ∧ Own w6 30 11 ov O.length (fl Ev.cells O) ∧ (∀ b, isIn ov b → w5.heap.size ≤ b) ∧ Ext w5 w6) (fun j => evs.length - j) 0 ⟨.slice none 0 0, [], at_ ⟨rfl, rfl, rfl, rfl, rfl, rfl, rfl, rfl, rfl, rfl, trivial⟩, by omega, List.Pairwise.nil, by simpa using hhd, Own.nil _ _ _, fun b hb => hb.elim, Upd.refl _ _⟩ ?_
    rintro j σ w6 ⟨ov, O, ⟨ρ, rfl⟩, hj, hunl, hOl, own6, hf6, u6⟩
    obtain ⟨oa, oc, rfl⟩ := own6.slice
    have u06 := p5.u.trans u6
    have s6 := u6.size
    (repeat (first | refine swp_seq ?_ | refine swp_block ?_))
    refine PEv.swp_cutQ (fun σ w' => ∃ go : Bool, At σ [(0, .slice (some ⟨b1, o1, none⟩) eps.length c0), (1, .int .i64 k), (2, .int .i64 d), (7, .pointer (some ⟨bg, 0, none⟩)), (9, .pointer (some ⟨bh, 0, none⟩)), (11, .int .i64 (hd : Nat)), (12, tv), (13, .int .i64 (i : Nat)), (14, .slice oa O.length oc), (15, .int .i64 (j : Nat)), (84, .bool go)] ∧ (go = true → j < evs.length ∧ hd + O.length < 4096) ∧ w6 = w') ?_ ?_
    · (repeat (first | refine swp_seq ?_ | refine swp_block ?_)); refine swp_region (by kernel_rfl) ?_
      repeat (first | refine x_move (by rfl) ?_ | refine x_as (by rfl) (by rfl) ?_ | refine x_skip (by rfl) ?_ | refine x_fld (by rfl) (by rfl) FldO.h ?_ | refine x_nilck (by rfl) (by rfl) ?_ | refine x_len (by rfl) (by rfl) ElOf.some ?_ | refine x_ext (by rfl) (by rfl) (by rfl) ?_ | refine x_pickT (by rfl) (by rfl) (by rfl) ?_ | refine x_pickF (by rfl) (by rfl) (by rfl) ?_ | refine x_add (by rfl) (by rfl) (by rfl) (by omega) ?_ | refine x_sub (by rfl) (by rfl) (by rfl) (by omega) ?_ | refine x_not (by rfl) (by rfl) ?_)
      refine x_idx i (by rfl) (by rfl) (by rfl) ElSz.h rfl hi' ?_
      repeat (first | refine x_move (by rfl) ?_ | refine x_as (by rfl) (by rfl) ?_ | refine x_skip (by rfl) ?_ | refine x_fld (by rfl) (by rfl) FldO.h ?_ | refine x_nilck (by rfl) (by rfl) ?_ | refine x_len (by rfl) (by rfl) ElOf.some ?_ | refine x_ext (by rfl) (by rfl) (by rfl) ?_ | refine x_pickT (by rfl) (by rfl) (by rfl) ?_ | refine x_pickF (by rfl) (by rfl) (by rfl) ?_ | refine x_add (by rfl) (by rfl) (by rfl) (by omega) ?_ | refine x_sub (by rfl) (by rfl) (by rfl) (by omega) ?_ | refine x_not (by rfl) (by rfl) ?_)
      refine w_load (v := .slice ea evs.length ec) (by rfl) (by rfl) (ldsl u06 rfl) ?_
      repeat (first | refine x_move (by rfl) ?_ | refine x_as (by rfl) (by rfl) ?_ | refine x_skip (by rfl) ?_ | refine x_fld (by rfl) (by rfl) FldO.h ?_ | refine x_nilck (by rfl) (by rfl) ?_ | refine x_len (by rfl) (by rfl) ElOf.some ?_ | refine x_ext (by rfl) (by rfl) (by rfl) ?_ | refine x_pickT (by rfl) (by rfl) (by rfl) ?_ | refine x_pickF (by rfl) (by rfl) (by rfl) ?_ | refine x_add (by rfl) (by rfl) (by rfl) (by omega) ?_ | refine x_sub (by rfl) (by rfl) (by rfl) (by omega) ?_ | refine x_not (by rfl) (by rfl) ?_)
      by_cases hjl : j < evs.length
      · refine x_lssT (by rfl) (by rfl) (by rfl) (by omega) ?_
        repeat (first | refine x_move (by rfl) ?_ | refine x_as (by rfl) (by rfl) ?_ | refine x_skip (by rfl) ?_ | refine x_fld (by rfl) (by rfl) FldO.h ?_ | refine x_nilck (by rfl) (by rfl) ?_ | refine x_len (by rfl) (by rfl) ElOf.some ?_ | refine x_ext (by rfl) (by rfl) (by rfl) ?_ | refine x_pickT (by rfl) (by rfl) (by rfl) ?_ | refine x_pickF (by rfl) (by rfl) (by rfl) ?_ | refine x_add (by rfl) (by rfl) (by rfl) (by omega) ?_ | refine x_sub (by rfl) (by rfl) (by rfl) (by omega) ?_ | refine x_not (by rfl) (by rfl) ?_)
        refine x_lss (by rfl) (by rfl) (by rfl) ?_
        repeat (first | refine x_move (by rfl) ?_ | refine x_as (by rfl) (by rfl) ?_ | refine x_skip (by rfl) ?_ | refine x_fld (by rfl) (by rfl) FldO.h ?_ | refine x_nilck (by rfl) (by rfl) ?_ | refine x_len (by rfl) (by rfl) ElOf.some ?_ | refine x_ext (by rfl) (by rfl) (by rfl) ?_ | refine x_pickT (by rfl) (by rfl) (by rfl) ?_ | refine x_pickF (by rfl) (by rfl) (by rfl) ?_ | refine x_add (by rfl) (by rfl) (by rfl) (by omega) ?_ | refine x_sub (by rfl) (by rfl) (by rfl) (by omega) ?_ | refine x_not (by rfl) (by rfl) ?_)
        refine x_nilw ?_
        exact ⟨rfl, _, at_ ⟨rfl, rfl, rfl, rfl, rfl, rfl, rfl, rfl, rfl, rfl, rfl, trivial⟩, fun hd' => ⟨hjl, by have := of_decide_eq_true hd'; omega⟩, rfl⟩
      · refine x_lssF (by rfl) (by rfl) (by rfl) (by omega) ?_
        repeat (first | refine x_move (by rfl) ?_ | refine x_as (by rfl) (by rfl) ?_ | refine x_skip (by rfl) ?_ | refine x_fld (by rfl) (by rfl) FldO.h ?_ | refine x_nilck (by rfl) (by rfl) ?_ | refine x_len (by rfl) (by rfl) ElOf.some ?_ | refine x_ext (by rfl) (by rfl) (by rfl) ?_ | refine x_pickT (by rfl) (by rfl) (by rfl) ?_ | refine x_pickF (by rfl) (by rfl) (by rfl) ?_ | refine x_add (by rfl) (by rfl) (by rfl) (by omega) ?_ | refine x_sub (by rfl) (by rfl) (by rfl) (by omega) ?_ | refine x_not (by rfl) (by rfl) ?_)
        refine x_nilw ?_
        exact ⟨rfl, false, at_ ⟨rfl, rfl, rfl, rfl, rfl, rfl, rfl, rfl, rfl, rfl, rfl, trivial⟩, fun h => absurd h (by decide), rfl⟩
    rintro σ w' ⟨go, ⟨ρ, rfl⟩, hgo, rfl⟩
    refine n_then ?_
    cases go with
    | true =>
      obtain ⟨hj', hlt⟩ := hgo rfl
      obtain ⟨x, hx⟩ := nthE hj'
      refine swp_true (by rfl) (swp_skip ?_)
      have hv6 := hev.at u06
      obtain ⟨b2, o2, d2, he2, -, -⟩ := hev.pos (by omega)
      simp only [Value.slice.injEq] at he2
      obtain ⟨rfl, _, rfl⟩ := he2
      (repeat (first | with_reducible refine n_then ?_ | with_reducible refine n_block ?_ | with_reducible refine n_jump ?_))
      (repeat (first | refine swp_seq ?_ | refine swp_block ?_)); refine swp_region (by kernel_rfl) ?_
      repeat (first | refine x_move (by rfl) ?_ | refine x_as (by rfl) (by rfl) ?_ | refine x_skip (by rfl) ?_ | refine x_fld (by rfl) (by rfl) FldO.h ?_ | refine x_nilck (by rfl) (by rfl) ?_ | refine x_len (by rfl) (by rfl) ElOf.some ?_ | refine x_ext (by rfl) (by rfl) (by rfl) ?_ | refine x_pickT (by rfl) (by rfl) (by rfl) ?_ | refine x_pickF (by rfl) (by rfl) (by rfl) ?_ | refine x_add (by rfl) (by rfl) (by rfl) (by omega) ?_ | refine x_sub (by rfl) (by rfl) (by rfl) (by omega) ?_ | refine x_not (by rfl) (by rfl) ?_)
      refine x_idx i (by rfl) (by rfl) (by rfl) ElSz.h rfl hi' ?_
      repeat (first | refine x_move (by rfl) ?_ | refine x_as (by rfl) (by rfl) ?_ | refine x_skip (by rfl) ?_ | refine x_fld (by rfl) (by rfl) FldO.h ?_ | refine x_nilck (by rfl) (by rfl) ?_ | refine x_len (by rfl) (by rfl) ElOf.some ?_ | refine x_ext (by rfl) (by rfl) (by rfl) ?_ | refine x_pickT (by rfl) (by rfl) (by rfl) ?_ | refine x_pickF (by rfl) (by rfl) (by rfl) ?_ | refine x_add (by rfl) (by rfl) (by rfl) (by omega) ?_ | refine x_sub (by rfl) (by rfl) (by rfl) (by omega) ?_ | refine x_not (by rfl) (by rfl) ?_)
      refine w_load (v := .slice (some ⟨b2, o2, none⟩) evs.length ec) (by rfl) (by rfl) (ldsl u06 rfl) ?_
      repeat (first | refine x_move (by rfl) ?_ | refine x_as (by rfl) (by rfl) ?_ | refine x_skip (by rfl) ?_ | refine x_fld (by rfl) (by rfl) FldO.h ?_ | refine x_nilck (by rfl) (by rfl) ?_ | refine x_len (by rfl) (by rfl) ElOf.some ?_ | refine x_ext (by rfl) (by rfl) (by rfl) ?_ | refine x_pickT (by rfl) (by rfl) (by rfl) ?_ | refine x_pickF (by rfl) (by rfl) (by rfl) ?_ | refine x_add (by rfl) (by rfl) (by rfl) (by omega) ?_ | refine x_sub (by rfl) (by rfl) (by rfl) (by omega) ?_ | refine x_not (by rfl) (by rfl) ?_)
      refine x_idx j (by rfl) (by rfl) (by rfl) ElSz.h rfl hj' ?_
      refine w_load (by rfl) (by rfl) (rd_load ev_len AggT.h hv6 hx rfl rfl) ?_
      refine w_alloc (by rfl) (by rfl) ZeroT.h ?_; intro b7 w7 e7 u7 h7
      refine w_store (xs := x.cells) (by rfl) (by rfl) (by rfl) (by rfl) SzT.h (by rfl) (by rfl) h7 (by simp) ?_
      intro w8 u8 h8 _
      refine x_nilw ?_
      replace h8 : Blk w8 b7 30 x.cells := h8
      have u68 : Ext w6 w8 := u7.trans' u8 fun b hb e => by have e' : b = b7 := e; omega
      have own8 := own6.at u68
      have s68 := u68.size
      refine swp_fit [(0, .slice (some ⟨b1, o1, none⟩) eps.length c0), (1, .int .i64 k), (2, .int .i64 d), (7, .pointer (some ⟨bg, 0, none⟩)), (9, .pointer (some ⟨bh, 0, none⟩)), (11, .int .i64 (hd : Nat)), (12, tv), (13, .int .i64 (i : Nat)), (14, .slice oa O.length oc), (15, .int .i64 (j : Nat)), (16, .pointer (some ⟨b7, 0, none⟩))] ⟨rfl, rfl, rfl, rfl, rfl, rfl, rfl, rfl, rfl, rfl, rfl, trivial⟩ fun ρ => ?_
      (repeat (first | refine swp_seq ?_ | refine swp_block ?_)); refine swp_region (by kernel_rfl) ?_
      repeat (first | refine x_move (by rfl) ?_ | refine x_as (by rfl) (by rfl) ?_ | refine x_skip (by rfl) ?_ | refine x_fld (by rfl) (by rfl) FldO.h ?_ | refine x_nilck (by rfl) (by rfl) ?_ | refine x_len (by rfl) (by rfl) ElOf.some ?_ | refine x_ext (by rfl) (by rfl) (by rfl) ?_ | refine x_pickT (by rfl) (by rfl) (by rfl) ?_ | refine x_pickF (by rfl) (by rfl) (by rfl) ?_ | refine x_add (by rfl) (by rfl) (by rfl) (by omega) ?_ | refine x_sub (by rfl) (by rfl) (by rfl) (by omega) ?_ | refine x_not (by rfl) (by rfl) ?_)
      refine w_load (by rfl) (by rfl) (load_agg (xs := x.cells) AggT.h h8 (by rfl) (by rfl)) ?_
      refine w_call (by rfl) (by rfl) (by rfl) (named x own8.rd (by omega)) ?_
      rintro _ w9 ⟨rfl, u9⟩
      refine x_eql (by rfl) (by rfl) (by rfl) ?_
      refine x_nilw ?_
      (repeat (first | refine swp_seq ?_ | refine swp_block ?_))
      have u69 := u68.trans u9
      refine swp_if (by rfl) (fun hz => ?_) (fun hz => swp_skip ?_)
      · have hnew : ∀ a ∈ O, a.nm ≠ x.nm := fun a ha he => by
          have : a ∈ O.filter (pN x) := List.mem_filter.2 ⟨ha, decide_eq_true he⟩
          have hnil : O.filter (pN x) = [] := List.eq_nil_of_length_eq_zero (by omega)
          rw [hnil] at this
          cases this
        (repeat (first | refine swp_seq ?_ | refine swp_block ?_)); refine swp_region (by kernel_rfl) ?_
        repeat (first | refine x_move (by rfl) ?_ | refine x_as (by rfl) (by rfl) ?_ | refine x_skip (by rfl) ?_ | refine x_fld (by rfl) (by rfl) FldO.h ?_ | refine x_nilck (by rfl) (by rfl) ?_ | refine x_len (by rfl) (by rfl) ElOf.some ?_ | refine x_ext (by rfl) (by rfl) (by rfl) ?_ | refine x_pickT (by rfl) (by rfl) (by rfl) ?_ | refine x_pickF (by rfl) (by rfl) (by rfl) ?_ | refine x_add (by rfl) (by rfl) (by rfl) (by omega) ?_ | refine x_sub (by rfl) (by rfl) (by rfl) (by omega) ?_ | refine x_not (by rfl) (by rfl) ?_)
        refine w_load (by rfl) (by rfl) (load_agg (xs := x.cells) AggT.h (h8.at u9) (by rfl) (by rfl)) ?_
        refine w_bslice (e := 30) (cs := x.cells) (by rfl) (by rfl) (by rfl) (by kernel_rfl) ?_
        intro b10 w10 e10 u10 h10
        refine w_append (more := []) (news := x.cells) (by rfl) (by rfl) (by rfl) (by rfl) SlC.h ((own8.at u9).at u10) (by rw [List.append_nil]; exact h10) (by rfl) (by rfl) (by omega) (room88 (by omega)) ?_
        intro ov11 w11 own11 u11 hin11
        repeat (first | refine x_move (by rfl) ?_ | refine x_as (by rfl) (by rfl) ?_ | refine x_skip (by rfl) ?_ | refine x_fld (by rfl) (by rfl) FldO.h ?_ | refine x_nilck (by rfl) (by rfl) ?_ | refine x_len (by rfl) (by rfl) ElOf.some ?_ | refine x_ext (by rfl) (by rfl) (by rfl) ?_ | refine x_pickT (by rfl) (by rfl) (by rfl) ?_ | refine x_pickF (by rfl) (by rfl) (by rfl) ?_ | refine x_add (by rfl) (by rfl) (by rfl) (by omega) ?_ | refine x_sub (by rfl) (by rfl) (by rfl) (by omega) ?_ | refine x_not (by rfl) (by rfl) ?_)
        refine x_nilw ?_
        (repeat (first | with_reducible refine n_then ?_ | with_reducible refine n_block ?_ | with_reducible refine n_jump ?_))
        (repeat (first | refine swp_seq ?_ | refine swp_block ?_)); refine swp_region (by kernel_rfl) ?_
        repeat (first | refine x_move (by rfl) ?_ | refine x_as (by rfl) (by rfl) ?_ | refine x_skip (by rfl) ?_ | refine x_fld (by rfl) (by rfl) FldO.h ?_ | refine x_nilck (by rfl) (by rfl) ?_ | refine x_len (by rfl) (by rfl) ElOf.some ?_ | refine x_ext (by rfl) (by rfl) (by rfl) ?_ | refine x_pickT (by rfl) (by rfl) (by rfl) ?_ | refine x_pickF (by rfl) (by rfl) (by rfl) ?_ | refine x_add (by rfl) (by rfl) (by rfl) (by omega) ?_ | refine x_sub (by rfl) (by rfl) (by rfl) (by omega) ?_ | refine x_not (by rfl) (by rfl) ?_)
        refine x_nilw ?_
        have s9 := u9.size
        have s10 := u10.size
        refine ⟨j + 1, ⟨ov11, O ++ [x], at_ ⟨rfl, rfl, rfl, rfl, rfl, rfl, rfl, rfl, rfl, rfl, trivial⟩, by omega, ?_, by simp; omega, ?_, fun b hb => (hin11 b hb).elim (hf6 b) fun h => by omega, ((u6.trans u69).trans u10).trans' u11 fun b hb hf => by have := hf6 b hf; omega⟩, by omega⟩
        · exact List.pairwise_append.2 ⟨hunl, List.pairwise_cons.2 ⟨by simp, List.Pairwise.nil⟩, fun a ha b hb => by obtain rfl := List.mem_singleton.1 hb; exact hnew a ha⟩
        · rw [fl_append, fl_one, List.length_append]
          exact own11
      · (repeat (first | with_reducible refine n_then ?_ | with_reducible refine n_block ?_ | with_reducible refine n_jump ?_))
        (repeat (first | refine swp_seq ?_ | refine swp_block ?_)); refine swp_region (by kernel_rfl) ?_
        repeat (first | refine x_move (by rfl) ?_ | refine x_as (by rfl) (by rfl) ?_ | refine x_skip (by rfl) ?_ | refine x_fld (by rfl) (by rfl) FldO.h ?_ | refine x_nilck (by rfl) (by rfl) ?_ | refine x_len (by rfl) (by rfl) ElOf.some ?_ | refine x_ext (by rfl) (by rfl) (by rfl) ?_ | refine x_pickT (by rfl) (by rfl) (by rfl) ?_ | refine x_pickF (by rfl) (by rfl) (by rfl) ?_ | refine x_add (by rfl) (by rfl) (by rfl) (by omega) ?_ | refine x_sub (by rfl) (by rfl) (by rfl) (by omega) ?_ | refine x_not (by rfl) (by rfl) ?_)
        refine x_nilw ?_
        exact ⟨j + 1, ⟨_, O, at_ ⟨rfl, rfl, rfl, rfl, rfl, rfl, rfl, rfl, rfl, rfl, trivial⟩, by omega, hunl, hOl, own6.at u69, hf6, u6.trans u69⟩, by omega⟩
    | false =>
      refine swp_false (by rfl) ?_
      refine swp_exit ?_; (repeat (first | with_reducible refine e_then ?_ | with_reducible refine e_jump ?_)); refine e_block ?_; (repeat (first | with_reducible refine n_then ?_ | with_reducible refine n_block ?_ | with_reducible refine n_jump ?_))
      have p6 := p5.at u6
      have ls6 := ls5.at u6
      have lo6 : Ls w6 bg r bp sp5 bh rh bq sq5 (.slice oa O.length oc) O := Ls.new p5 own6 hf6
      refine swp_fit [(0, .slice (some ⟨b1, o1, none⟩) eps.length c0), (1, .int .i64 k), (2, .int .i64 d), (7, .pointer (some ⟨bg, 0, none⟩)), (9, .pointer (some ⟨bh, 0, none⟩)), (11, .int .i64 (hd : Nat)), (12, tv), (13, .int .i64 (i : Nat)), (14, .slice oa O.length oc)] ⟨rfl, rfl, rfl, rfl, rfl, rfl, rfl, rfl, rfl, trivial⟩ fun ρ => ?_
      (repeat (first | refine swp_seq ?_ | refine swp_block ?_)); refine swp_region (by kernel_rfl) ?_
      repeat (first | refine x_move (by rfl) ?_ | refine x_as (by rfl) (by rfl) ?_ | refine x_skip (by rfl) ?_ | refine x_fld (by rfl) (by rfl) FldO.h ?_ | refine x_nilck (by rfl) (by rfl) ?_ | refine x_len (by rfl) (by rfl) ElOf.some ?_ | refine x_ext (by rfl) (by rfl) (by rfl) ?_ | refine x_pickT (by rfl) (by rfl) (by rfl) ?_ | refine x_pickF (by rfl) (by rfl) (by rfl) ?_ | refine x_add (by rfl) (by rfl) (by rfl) (by omega) ?_ | refine x_sub (by rfl) (by rfl) (by rfl) (by omega) ?_ | refine x_not (by rfl) (by rfl) ?_)
      refine x_nilw ?_
      (repeat (first | refine swp_seq ?_ | refine swp_block ?_)); refine swp_region (by kernel_rfl) ?_
      repeat (first | refine x_move (by rfl) ?_ | refine x_as (by rfl) (by rfl) ?_ | refine x_skip (by rfl) ?_ | refine x_fld (by rfl) (by rfl) FldO.h ?_ | refine x_nilck (by rfl) (by rfl) ?_ | refine x_len (by rfl) (by rfl) ElOf.some ?_ | refine x_ext (by rfl) (by rfl) (by rfl) ?_ | refine x_pickT (by rfl) (by rfl) (by rfl) ?_ | refine x_pickF (by rfl) (by rfl) (by rfl) ?_ | refine x_add (by rfl) (by rfl) (by rfl) (by omega) ?_ | refine x_sub (by rfl) (by rfl) (by rfl) (by omega) ?_ | refine x_not (by rfl) (by rfl) ?_)
      refine x_addw (by rfl) (by rfl) (by rfl) ?_
      repeat (first | refine x_move (by rfl) ?_ | refine x_as (by rfl) (by rfl) ?_ | refine x_skip (by rfl) ?_ | refine x_fld (by rfl) (by rfl) FldO.h ?_ | refine x_nilck (by rfl) (by rfl) ?_ | refine x_len (by rfl) (by rfl) ElOf.some ?_ | refine x_ext (by rfl) (by rfl) (by rfl) ?_ | refine x_pickT (by rfl) (by rfl) (by rfl) ?_ | refine x_pickF (by rfl) (by rfl) (by rfl) ?_ | refine x_add (by rfl) (by rfl) (by rfl) (by omega) ?_ | refine x_sub (by rfl) (by rfl) (by rfl) (by omega) ?_ | refine x_not (by rfl) (by rfl) ?_)
      refine w_call (by rfl) (by rfl) (by rfl) (shuffled _ d own6.rd (by omega)) ?_
      rintro tv7 w7 ⟨T, hperm, own7, hf7, u7⟩
      repeat (first | refine x_move (by rfl) ?_ | refine x_as (by rfl) (by rfl) ?_ | refine x_skip (by rfl) ?_ | refine x_fld (by rfl) (by rfl) FldO.h ?_ | refine x_nilck (by rfl) (by rfl) ?_ | refine x_len (by rfl) (by rfl) ElOf.some ?_ | refine x_ext (by rfl) (by rfl) (by rfl) ?_ | refine x_pickT (by rfl) (by rfl) (by rfl) ?_ | refine x_pickF (by rfl) (by rfl) (by rfl) ?_ | refine x_add (by rfl) (by rfl) (by rfl) (by omega) ?_ | refine x_sub (by rfl) (by rfl) (by rfl) (by omega) ?_ | refine x_not (by rfl) (by rfl) ?_)
      refine x_nilw ?_
      have hTl : T.length = O.length := hperm.length_eq
      have hunlT : Unl T := hunl.perm hperm.symm
      have p7 := p6.at u7
      have ls7 := ls6.at u7
      have lo7 := lo6.at u7
      have lt7 : Ls w7 bg r bp sp5 bh rh bq sq5 tv7 T := Ls.new p6 own7 hf7
      have hft7 : ∀ b, isIn tv7 b → w6.heap.size ≤ b := hf7
      obtain ⟨ta, tc, htv7⟩ := own7.slice
      rw [hTl] at htv7
      subst htv7
      refine swp_fit [(0, .slice (some ⟨b1, o1, none⟩) eps.length c0), (1, .int .i64 k), (2, .int .i64 d), (7, .pointer (some ⟨bg, 0, none⟩)), (9, .pointer (some ⟨bh, 0, none⟩)), (11, .int .i64 ((hd + O.length : Nat))), (12, tv), (13, .int .i64 (i : Nat)), (14, .slice oa O.length oc), (17, .slice ta O.length tc)] ⟨rfl, rfl, rfl, rfl, rfl, rfl, rfl, rfl, rfl, rfl, trivial⟩ fun ρ => ?_
      (repeat (first | refine swp_seq ?_ | refine swp_block ?_)); refine swp_region (by kernel_rfl) ?_
      repeat (first | refine x_move (by rfl) ?_ | refine x_as (by rfl) (by rfl) ?_ | refine x_skip (by rfl) ?_ | refine x_fld (by rfl) (by rfl) FldO.h ?_ | refine x_nilck (by rfl) (by rfl) ?_ | refine x_len (by rfl) (by rfl) ElOf.some ?_ | refine x_ext (by rfl) (by rfl) (by rfl) ?_ | refine x_pickT (by rfl) (by rfl) (by rfl) ?_ | refine x_pickF (by rfl) (by rfl) (by rfl) ?_ | refine x_add (by rfl) (by rfl) (by rfl) (by omega) ?_ | refine x_sub (by rfl) (by rfl) (by rfl) (by omega) ?_ | refine x_not (by rfl) (by rfl) ?_)
      refine x_nilw ?_
      (repeat (first | refine swp_seq ?_ | refine swp_block ?_)); refine swp_region (by kernel_rfl) ?_
      repeat (first | refine x_move (by rfl) ?_ | refine x_as (by rfl) (by rfl) ?_ | refine x_skip (by rfl) ?_ | refine x_fld (by rfl) (by rfl) FldO.h ?_ | refine x_nilck (by rfl) (by rfl) ?_ | refine x_len (by rfl) (by rfl) ElOf.some ?_ | refine x_ext (by rfl) (by rfl) (by rfl) ?_ | refine x_pickT (by rfl) (by rfl) (by rfl) ?_ | refine x_pickF (by rfl) (by rfl) (by rfl) ?_ | refine x_add (by rfl) (by rfl) (by rfl) (by omega) ?_ | refine x_sub (by rfl) (by rfl) (by rfl) (by omega) ?_ | refine x_not (by rfl) (by rfl) ?_)
      refine x_nilw ?_
      (repeat (first | refine swp_seq ?_ | refine swp_block ?_))
      refine swp_loop (fun (m : Nat) σ w8 => ∃ sp8 sq8, At σ [(0, .slice (some ⟨b1, o1, none⟩) eps.length c0), (1, .int .i64 k), (2, .int .i64 d), (7, .pointer (some ⟨bg, 0, none⟩)), (9, .pointer (some ⟨bh, 0, none⟩)), (11, .int .i64 ((hd + O.length : Nat))), (12, tv), (13, .int .i64 (i : Nat)), (14, .slice oa O.length oc), (17, .slice ta O.length tc), (18, .int .i64 (cnt g (O.take m) - cnt g (T.take m))), (19, .int .i64 (m : Nat))] ∧ m ≤ O.length ∧ Pr w w8 bg r bp sp8 bh rh bq sq8 (stp g (O.take m)) (stp g (T.take m)) (2 * hd + 2 + 2 * m) ∧ Ls w8 bg r bp sp8 bh rh bq sq8 tv told ∧ Ls w8 bg r bp sp8 bh rh bq sq8 (.slice oa O.length oc) O ∧ Ls w8 bg r bp sp8 bh rh bq sq8 (.slice ta O.length tc) T) (fun m => O.length - m) 0 ⟨sp5, sq5, at_ ⟨rfl, rfl, rfl, rfl, rfl, rfl, rfl, rfl, rfl, rfl, rfl, rfl, trivial⟩, by omega, p7, ls7, lo7, lt7⟩ ?_
      rintro m σ w8 ⟨sp8, sq8, ⟨ρ, rfl⟩, hm, p8, ls8, lo8, lt8⟩
      (repeat (first | refine swp_seq ?_ | refine swp_block ?_)); refine swp_region (by kernel_rfl) ?_
      repeat (first | refine x_move (by rfl) ?_ | refine x_as (by rfl) (by rfl) ?_ | refine x_skip (by rfl) ?_ | refine x_fld (by rfl) (by rfl) FldO.h ?_ | refine w_load (by rfl) (by rfl) (load_one OneT.h (by assumption) (by rfl)) ?_ | refine x_nilck (by rfl) (by rfl) ?_ | refine x_len (by rfl) (by rfl) ElOf.some ?_ | refine x_iface (by rfl) (by rfl) NIf.h ?_ | refine x_ext (by rfl) (by rfl) (by rfl) ?_ | refine x_pickT (by rfl) (by rfl) (by rfl) ?_ | refine x_pickF (by rfl) (by rfl) (by rfl) ?_ | refine x_add (by rfl) (by rfl) (by rfl) (by omega) ?_ | refine x_sub (by rfl) (by rfl) (by rfl) (by omega) ?_ | refine x_lss (by rfl) (by rfl) (by rfl) ?_ | refine x_geq (by rfl) (by rfl) (by rfl) ?_ | refine x_leq (by rfl) (by rfl) (by rfl) ?_ | refine x_gtr (by rfl) (by rfl) (by rfl) ?_ | refine x_eql (by rfl) (by rfl) (by rfl) ?_ | refine x_neq (by rfl) (by rfl) (by rfl) ?_ | refine x_not (by rfl) (by rfl) ?_)
      refine x_nilw ?_
      (repeat (first | refine swp_seq ?_ | refine swp_block ?_))
      refine swp_if (by rfl) (fun h0 => swp_skip ?_) (fun h0 => ?_)
      · have hm' : m < O.length := by omega
        obtain ⟨x, hx⟩ := nthE hm'
        obtain ⟨y, hy⟩ := nthE (L := T) (i := m) (by omega)
        have hro := lo8.own.rd
        have hrt := lt8.own.rd
        obtain ⟨b3, o3, d3, he3, -, -⟩ := hro.pos (by omega)
        simp only [Value.slice.injEq] at he3
        obtain ⟨rfl, _, rfl⟩ := he3
        obtain ⟨b4, o4, d4, he4, -, -⟩ := hrt.pos (by omega)
        simp only [Value.slice.injEq] at he4
        obtain ⟨rfl, _, rfl⟩ := he4
        have hux : Unl (O.take m ++ [x]) := by rw [← take_succ' hx]; exact unl_take hunl _
        have huy : Unl (T.take m ++ [y]) := by rw [← take_succ' hy]; exact unl_take hunlT _
        have hcx : g.S.length + (O.take m).length < 4096 := by rw [List.length_take]; omega
        have hcy : g.S.length + (T.take m).length < 4096 := by rw [List.length_take]; omega
        have cx := stp_code hsh hcap hux hcx
        have cy := stp_code hsh hcap huy hcy
        have px := stp_push hsh hcap hux hcx
        have py := stp_push hsh hcap huy hcy
        rw [← take_succ' hx] at px
        rw [← take_succ' hy] at py
        have ex := cnt_succ (g := g) hx
        have ey := cnt_succ (g := g) hy
        have lx := cnt_le g O m
        have ly := cnt_le g T m
        (repeat (first | with_reducible refine n_then ?_ | with_reducible refine n_block ?_ | with_reducible refine n_jump ?_))
        (repeat (first | refine swp_seq ?_ | refine swp_block ?_)); refine swp_region (by kernel_rfl) ?_
        repeat (first | refine x_move (by rfl) ?_ | refine x_as (by rfl) (by rfl) ?_ | refine x_skip (by rfl) ?_ | refine x_fld (by rfl) (by rfl) FldO.h ?_ | refine x_nilck (by rfl) (by rfl) ?_ | refine x_len (by rfl) (by rfl) ElOf.some ?_ | refine x_ext (by rfl) (by rfl) (by rfl) ?_ | refine x_pickT (by rfl) (by rfl) (by rfl) ?_ | refine x_pickF (by rfl) (by rfl) (by rfl) ?_ | refine x_add (by rfl) (by rfl) (by rfl) (by omega) ?_ | refine x_sub (by rfl) (by rfl) (by rfl) (by omega) ?_ | refine x_not (by rfl) (by rfl) ?_)
        refine x_idx m (by rfl) (by rfl) (by rfl) ElSz.h rfl hm' ?_
        refine w_load (by rfl) (by rfl) (rd_load ev_len AggT.h hro hx rfl rfl) ?_
        refine w_call (by rfl) (by rfl) (by rfl) (pr_push' x p8 (by omega)) ?_
        rintro _ w9 ⟨rfl, sp9, p9, u9, hin9⟩
        repeat (first | refine x_move (by rfl) ?_ | refine x_as (by rfl) (by rfl) ?_ | refine x_skip (by rfl) ?_ | refine x_fld (by rfl) (by rfl) FldO.h ?_ | refine x_nilck (by rfl) (by rfl) ?_ | refine x_len (by rfl) (by rfl) ElOf.some ?_ | refine x_ext (by rfl) (by rfl) (by rfl) ?_ | refine x_pickT (by rfl) (by rfl) (by rfl) ?_ | refine x_pickF (by rfl) (by rfl) (by rfl) ?_ | refine x_add (by rfl) (by rfl) (by rfl) (by omega) ?_ | refine x_sub (by rfl) (by rfl) (by rfl) (by omega) ?_ | refine x_not (by rfl) (by rfl) ?_)
        refine x_nilw ?_
        have ls9 := ls8.turn u9 hin9
        have lo9 := lo8.turn u9 hin9
        have lt9 := lt8.turn u9 hin9
        have hrt9 := lt9.own.rd
        rw [hTl] at hrt9
        rw [px] at p9
        refine swp_fit [(0, .slice (some ⟨b1, o1, none⟩) eps.length c0), (1, .int .i64 k), (2, .int .i64 d), (7, .pointer (some ⟨bg, 0, none⟩)), (9, .pointer (some ⟨bh, 0, none⟩)), (11, .int .i64 ((hd + O.length : Nat))), (12, tv), (13, .int .i64 (i : Nat)), (14, .slice (some ⟨b3, o3, none⟩) O.length oc), (17, .slice (some ⟨b4, o4, none⟩) O.length tc), (18, .int .i64 (cnt g (O.take m) - cnt g (T.take m))), (19, .int .i64 (m : Nat)), (20, .int .i64 ((stp g (O.take m)).pcode x))] ⟨rfl, rfl, rfl, rfl, rfl, rfl, rfl, rfl, rfl, rfl, rfl, rfl, rfl, trivial⟩ fun ρ => ?_
        (repeat (first | refine swp_seq ?_ | refine swp_block ?_)); refine swp_region (by kernel_rfl) ?_
        repeat (first | refine x_move (by rfl) ?_ | refine x_as (by rfl) (by rfl) ?_ | refine x_skip (by rfl) ?_ | refine x_fld (by rfl) (by rfl) FldO.h ?_ | refine x_nilck (by rfl) (by rfl) ?_ | refine x_len (by rfl) (by rfl) ElOf.some ?_ | refine x_ext (by rfl) (by rfl) (by rfl) ?_ | refine x_pickT (by rfl) (by rfl) (by rfl) ?_ | refine x_pickF (by rfl) (by rfl) (by rfl) ?_ | refine x_add (by rfl) (by rfl) (by rfl) (by omega) ?_ | refine x_sub (by rfl) (by rfl) (by rfl) (by omega) ?_ | refine x_not (by rfl) (by rfl) ?_)
        refine x_idx m (by rfl) (by rfl) (by rfl) ElSz.h rfl hm' ?_
        refine w_load (by rfl) (by rfl) (rd_load ev_len AggT.h hrt9 hy hTl.symm rfl) ?_
        refine w_call (by rfl) (by rfl) (by rfl) (pr_push' y p9.symm (by omega)) ?_
        rintro _ w10 ⟨rfl, sq10, p10, u10, hin10⟩
        repeat (first | refine x_move (by rfl) ?_ | refine x_as (by rfl) (by rfl) ?_ | refine x_skip (by rfl) ?_ | refine x_fld (by rfl) (by rfl) FldO.h ?_ | refine x_nilck (by rfl) (by rfl) ?_ | refine x_len (by rfl) (by rfl) ElOf.some ?_ | refine x_ext (by rfl) (by rfl) (by rfl) ?_ | refine x_pickT (by rfl) (by rfl) (by rfl) ?_ | refine x_pickF (by rfl) (by rfl) (by rfl) ?_ | refine x_add (by rfl) (by rfl) (by rfl) (by omega) ?_ | refine x_sub (by rfl) (by rfl) (by rfl) (by omega) ?_ | refine x_not (by rfl) (by rfl) ?_)
        refine x_nilw ?_
        have ls10 := (ls9.symm.turn u10 hin10).symm
        have lo10 := (lo9.symm.turn u10 hin10).symm
        have lt10 := (lt9.symm.turn u10 hin10).symm
        rw [py] at p10
        refine swp_fit [(0, .slice (some ⟨b1, o1, none⟩) eps.length c0), (1, .int .i64 k), (2, .int .i64 d), (7, .pointer (some ⟨bg, 0, none⟩)), (9, .pointer (some ⟨bh, 0, none⟩)), (11, .int .i64 ((hd + O.length : Nat))), (12, tv), (13, .int .i64 (i : Nat)), (14, .slice (some ⟨b3, o3, none⟩) O.length oc), (17, .slice (some ⟨b4, o4, none⟩) O.length tc), (18, .int .i64 (cnt g (O.take m) - cnt g (T.take m))), (19, .int .i64 (m : Nat)), (20, .int .i64 ((stp g (O.take m)).pcode x)), (21, .int .i64 ((stp g (T.take m)).pcode y))] ⟨rfl, rfl, rfl, rfl, rfl, rfl, rfl, rfl, rfl, rfl, rfl, rfl, rfl, rfl, trivial⟩ fun ρ => ?_
        refine swp_seq ?_
        refine PEv.swp_cutQ (fun σ w' => At σ [(0, .slice (some ⟨b1, o1, none⟩) eps.length c0), (1, .int .i64 k), (2, .int .i64 d), (7, .pointer (some ⟨bg, 0, none⟩)), (9, .pointer (some ⟨bh, 0, none⟩)), (11, .int .i64 ((hd + O.length : Nat))), (12, tv), (13, .int .i64 (i : Nat)), (14, .slice (some ⟨b3, o3, none⟩) O.length oc), (17, .slice (some ⟨b4, o4, none⟩) O.length tc), (18, .int .i64 (cnt g (O.take (m + 1)) - cnt g (T.take m))), (19, .int .i64 (m : Nat)), (21, .int .i64 ((stp g (T.take m)).pcode y))] ∧ w10 = w') ?_ ?_
        · (repeat (first | refine swp_seq ?_ | refine swp_block ?_)); refine swp_region (by kernel_rfl) ?_
          repeat (first | refine x_move (by rfl) ?_ | refine x_as (by rfl) (by rfl) ?_ | refine x_skip (by rfl) ?_ | refine x_fld (by rfl) (by rfl) FldO.h ?_ | refine x_nilck (by rfl) (by rfl) ?_ | refine x_len (by rfl) (by rfl) ElOf.some ?_ | refine x_ext (by rfl) (by rfl) (by rfl) ?_ | refine x_pickT (by rfl) (by rfl) (by rfl) ?_ | refine x_pickF (by rfl) (by rfl) (by rfl) ?_ | refine x_add (by rfl) (by rfl) (by rfl) (by omega) ?_ | refine x_sub (by rfl) (by rfl) (by rfl) (by omega) ?_ | refine x_not (by rfl) (by rfl) ?_)
          by_cases hc : (stp g (O.take m)).pcode x = 0
          · refine x_eqlT (by rfl) (by rfl) (by rfl) hc ?_
            refine x_nilw ?_
            (repeat (first | refine swp_seq ?_ | refine swp_block ?_))
            refine swp_true (by rfl) ?_
            (repeat (first | refine swp_seq ?_ | refine swp_block ?_)); refine swp_region (by kernel_rfl) ?_
            repeat (first | refine x_move (by rfl) ?_ | refine x_as (by rfl) (by rfl) ?_ | refine x_skip (by rfl) ?_ | refine x_fld (by rfl) (by rfl) FldO.h ?_ | refine x_nilck (by rfl) (by rfl) ?_ | refine x_len (by rfl) (by rfl) ElOf.some ?_ | refine x_ext (by rfl) (by rfl) (by rfl) ?_ | refine x_pickT (by rfl) (by rfl) (by rfl) ?_ | refine x_pickF (by rfl) (by rfl) (by rfl) ?_ | refine x_add (by rfl) (by rfl) (by rfl) (by omega) ?_ | refine x_sub (by rfl) (by rfl) (by rfl) (by omega) ?_ | refine x_not (by rfl) (by rfl) ?_)
            refine x_nilw ?_
            rw [show cnt g (O.take (m + 1)) - cnt g (T.take m) = cnt g (O.take m) - cnt g (T.take m) + 1 by rw [ex, cx.1 hc, if_pos rfl]; omega]
            exact ⟨rfl, at_ ⟨rfl, rfl, rfl, rfl, rfl, rfl, rfl, rfl, rfl, rfl, rfl, rfl, rfl, trivial⟩, rfl⟩
          · refine x_eqlF (by rfl) (by rfl) (by rfl) hc ?_
            refine x_nilw ?_
            (repeat (first | refine swp_seq ?_ | refine swp_block ?_))
            refine swp_false (by rfl) (swp_skip ?_)
            have hx0 : okB g x = false := by cases hb : okB g x with | false => rfl | true => exact absurd (cx.2 hb) hc
            rw [show cnt g (O.take (m + 1)) - cnt g (T.take m) = cnt g (O.take m) - cnt g (T.take m) by rw [ex, hx0, if_neg (by decide)]; omega]
            exact ⟨rfl, at_ ⟨rfl, rfl, rfl, rfl, rfl, rfl, rfl, rfl, rfl, rfl, rfl, rfl, rfl, trivial⟩, rfl⟩
        rintro σ w' ⟨⟨ρ, rfl⟩, rfl⟩
        refine n_then ?_
        have lx1 := cnt_le g O (m + 1)
        refine PEv.swp_cutQ (fun σ w' => At σ [(0, .slice (some ⟨b1, o1, none⟩) eps.length c0), (1, .int .i64 k), (2, .int .i64 d), (7, .pointer (some ⟨bg, 0, none⟩)), (9, .pointer (some ⟨bh, 0, none⟩)), (11, .int .i64 ((hd + O.length : Nat))), (12, tv), (13, .int .i64 (i : Nat)), (14, .slice (some ⟨b3, o3, none⟩) O.length oc), (17, .slice (some ⟨b4, o4, none⟩) O.length tc), (18, .int .i64 (cnt g (O.take (m + 1)) - cnt g (T.take (m + 1)))), (19, .int .i64 (m : Nat))] ∧ w10 = w') ?_ ?_
        · (repeat (first | refine swp_seq ?_ | refine swp_block ?_)); refine swp_region (by kernel_rfl) ?_
          repeat (first | refine x_move (by rfl) ?_ | refine x_as (by rfl) (by rfl) ?_ | refine x_skip (by rfl) ?_ | refine x_fld (by rfl) (by rfl) FldO.h ?_ | refine x_nilck (by rfl) (by rfl) ?_ | refine x_len (by rfl) (by rfl) ElOf.some ?_ | refine x_ext (by rfl) (by rfl) (by rfl) ?_ | refine x_pickT (by rfl) (by rfl) (by rfl) ?_ | refine x_pickF (by rfl) (by rfl) (by rfl) ?_ | refine x_add (by rfl) (by rfl) (by rfl) (by omega) ?_ | refine x_sub (by rfl) (by rfl) (by rfl) (by omega) ?_ | refine x_not (by rfl) (by rfl) ?_)
          by_cases hc : (stp g (T.take m)).pcode y = 0
          · refine x_eqlT (by rfl) (by rfl) (by rfl) hc ?_
            refine x_nilw ?_
            (repeat (first | refine swp_seq ?_ | refine swp_block ?_))
            refine swp_true (by rfl) ?_
            (repeat (first | refine swp_seq ?_ | refine swp_block ?_)); refine swp_region (by kernel_rfl) ?_
            repeat (first | refine x_move (by rfl) ?_ | refine x_as (by rfl) (by rfl) ?_ | refine x_skip (by rfl) ?_ | refine x_fld (by rfl) (by rfl) FldO.h ?_ | refine x_nilck (by rfl) (by rfl) ?_ | refine x_len (by rfl) (by rfl) ElOf.some ?_ | refine x_ext (by rfl) (by rfl) (by rfl) ?_ | refine x_pickT (by rfl) (by rfl) (by rfl) ?_ | refine x_pickF (by rfl) (by rfl) (by rfl) ?_ | refine x_add (by rfl) (by rfl) (by rfl) (by omega) ?_ | refine x_sub (by rfl) (by rfl) (by rfl) (by omega) ?_ | refine x_not (by rfl) (by rfl) ?_)
            refine x_nilw ?_
            rw [show cnt g (O.take (m + 1)) - cnt g (T.take (m + 1)) = cnt g (O.take (m + 1)) - cnt g (T.take m) - 1 by rw [ey, cy.1 hc, if_pos rfl]; omega]
            exact ⟨rfl, at_ ⟨rfl, rfl, rfl, rfl, rfl, rfl, rfl, rfl, rfl, rfl, rfl, rfl, trivial⟩, rfl⟩
          · refine x_eqlF (by rfl) (by rfl) (by rfl) hc ?_
            refine x_nilw ?_
            (repeat (first | refine swp_seq ?_ | refine swp_block ?_))
            refine swp_false (by rfl) (swp_skip ?_)
            have hy0 : okB g y = false := by cases hb : okB g y with | false => rfl | true => exact absurd (cy.2 hb) hc
            rw [show cnt g (O.take (m + 1)) - cnt g (T.take (m + 1)) = cnt g (O.take (m + 1)) - cnt g (T.take m) by rw [ey, hy0, if_neg (by decide)]; omega]
            exact ⟨rfl, at_ ⟨rfl, rfl, rfl, rfl, rfl, rfl, rfl, rfl, rfl, rfl, rfl, rfl, trivial⟩, rfl⟩
        rintro σ w' ⟨⟨ρ, rfl⟩, rfl⟩
        (repeat (first | with_reducible refine n_then ?_ | with_reducible refine n_block ?_ | with_reducible refine n_jump ?_))
        (repeat (first | refine swp_seq ?_ | refine swp_block ?_)); refine swp_region (by kernel_rfl) ?_
        repeat (first | refine x_move (by rfl) ?_ | refine x_as (by rfl) (by rfl) ?_ | refine x_skip (by rfl) ?_ | refine x_fld (by rfl) (by rfl) FldO.h ?_ | refine x_nilck (by rfl) (by rfl) ?_ | refine x_len (by rfl) (by rfl) ElOf.some ?_ | refine x_ext (by rfl) (by rfl) (by rfl) ?_ | refine x_pickT (by rfl) (by rfl) (by rfl) ?_ | refine x_pickF (by rfl) (by rfl) (by rfl) ?_ | refine x_add (by rfl) (by rfl) (by rfl) (by omega) ?_ | refine x_sub (by rfl) (by rfl) (by rfl) (by omega) ?_ | refine x_not (by rfl) (by rfl) ?_)
        refine x_nilw ?_
        exact ⟨m + 1, ⟨sp9, sq10, at_ ⟨rfl, rfl, rfl, rfl, rfl, rfl, rfl, rfl, rfl, rfl, rfl, rfl, trivial⟩, by omega, p10.symm.le (by omega), ls10, lo10, lt10⟩, by omega⟩
      have hmn : m = O.length := by omega
      subst hmn
      have hst := stp_perm (g := g) hperm hunlT
      have hcc : cnt g (O.take O.length) - cnt g (T.take O.length) = 0 := by
        rw [List.take_length, ← hTl, List.take_length]
        unfold cnt
        rw [(hperm.filter (okB g)).length_eq]
        omega
      rw [hcc]
      rw [List.take_length, ← hTl, List.take_length, hst] at p8
      rw [hTl] at p8
      refine swp_exit ?_; (repeat (first | with_reducible refine e_then ?_ | with_reducible refine e_jump ?_)); refine e_block ?_; (repeat (first | with_reducible refine n_then ?_ | with_reducible refine n_block ?_ | with_reducible refine n_jump ?_))
      have hsl8 := stp_len g O
      have hfl := List.length_filter_le (okB g) O
      have hsh' : (stp g O).shut = false := hsh
      have hM' : evM ∈ told ∨ evM ∈ (stp g O).S := hM.imp id fun h => mem_stp.2 (.inl h)
      have hcap' : (stp g O).cap = 4096 := hcap
      generalize stp g O = g2 at p8 hsl8 hsh' hM' hcap'
      have r8 := h.at p8.u
      refine swp_fit [(0, .slice (some ⟨b1, o1, none⟩) eps.length c0), (1, .int .i64 k), (2, .int .i64 d), (7, .pointer (some ⟨bg, 0, none⟩)), (9, .pointer (some ⟨bh, 0, none⟩)), (11, .int .i64 ((hd + O.length : Nat))), (12, tv), (13, .int .i64 (i : Nat)), (18, .int .i64 0)] ⟨rfl, rfl, rfl, rfl, rfl, rfl, rfl, rfl, rfl, trivial⟩ fun ρ => ?_
      (repeat (first | refine swp_seq ?_ | refine swp_block ?_)); refine swp_region (by kernel_rfl) ?_
      repeat (first | refine x_move (by rfl) ?_ | refine x_as (by rfl) (by rfl) ?_ | refine x_skip (by rfl) ?_ | refine x_fld (by rfl) (by rfl) FldO.h ?_ | refine x_nilck (by rfl) (by rfl) ?_ | refine x_len (by rfl) (by rfl) ElOf.some ?_ | refine x_ext (by rfl) (by rfl) (by rfl) ?_ | refine x_pickT (by rfl) (by rfl) (by rfl) ?_ | refine x_pickF (by rfl) (by rfl) (by rfl) ?_ | refine x_add (by rfl) (by rfl) (by rfl) (by omega) ?_ | refine x_sub (by rfl) (by rfl) (by rfl) (by omega) ?_ | refine x_not (by rfl) (by rfl) ?_)
      refine x_idx i (by rfl) (by rfl) (by rfl) ElSz.h rfl hi' ?_
      repeat (first | refine x_move (by rfl) ?_ | refine x_as (by rfl) (by rfl) ?_ | refine x_skip (by rfl) ?_ | refine x_fld (by rfl) (by rfl) FldO.h ?_ | refine x_nilck (by rfl) (by rfl) ?_ | refine x_len (by rfl) (by rfl) ElOf.some ?_ | refine x_ext (by rfl) (by rfl) (by rfl) ?_ | refine x_pickT (by rfl) (by rfl) (by rfl) ?_ | refine x_pickF (by rfl) (by rfl) (by rfl) ?_ | refine x_add (by rfl) (by rfl) (by rfl) (by omega) ?_ | refine x_sub (by rfl) (by rfl) (by rfl) (by omega) ?_ | refine x_not (by rfl) (by rfl) ?_)
      refine w_load (v := .int .i64 ep.mark) (by rfl) (by rfl) (load_one_cell OneT.h (rd_cell (j := 1) ep_len r8 hep rfl rfl rfl)) ?_
      refine w_call (by rfl) (by rfl) (by rfl) (pr_adv ep.mark p8) ?_
      rintro _ w9 ⟨la, rfl, owna, hfa, sp9, p9, u9, hin9⟩
      repeat (first | refine x_move (by rfl) ?_ | refine x_as (by rfl) (by rfl) ?_ | refine x_skip (by rfl) ?_ | refine x_fld (by rfl) (by rfl) FldO.h ?_ | refine x_nilck (by rfl) (by rfl) ?_ | refine x_len (by rfl) (by rfl) ElOf.some ?_ | refine x_ext (by rfl) (by rfl) (by rfl) ?_ | refine x_pickT (by rfl) (by rfl) (by rfl) ?_ | refine x_pickF (by rfl) (by rfl) (by rfl) ?_ | refine x_add (by rfl) (by rfl) (by rfl) (by omega) ?_ | refine x_sub (by rfl) (by rfl) (by rfl) (by omega) ?_ | refine x_not (by rfl) (by rfl) ?_)
      refine x_nilw ?_
      have r9 := h.at p9.u
      refine swp_fit [(0, .slice (some ⟨b1, o1, none⟩) eps.length c0), (1, .int .i64 k), (2, .int .i64 d), (7, .pointer (some ⟨bg, 0, none⟩)), (9, .pointer (some ⟨bh, 0, none⟩)), (11, .int .i64 ((hd + O.length : Nat))), (12, tv), (13, .int .i64 (i : Nat)), (18, .int .i64 0), (22, la), (23, .int .i64 (g2.acode ep.mark))] ⟨rfl, rfl, rfl, rfl, rfl, rfl, rfl, rfl, rfl, rfl, rfl, trivial⟩ fun ρ => ?_
      (repeat (first | refine swp_seq ?_ | refine swp_block ?_)); refine swp_region (by kernel_rfl) ?_
      repeat (first | refine x_move (by rfl) ?_ | refine x_as (by rfl) (by rfl) ?_ | refine x_skip (by rfl) ?_ | refine x_fld (by rfl) (by rfl) FldO.h ?_ | refine x_nilck (by rfl) (by rfl) ?_ | refine x_len (by rfl) (by rfl) ElOf.some ?_ | refine x_ext (by rfl) (by rfl) (by rfl) ?_ | refine x_pickT (by rfl) (by rfl) (by rfl) ?_ | refine x_pickF (by rfl) (by rfl) (by rfl) ?_ | refine x_add (by rfl) (by rfl) (by rfl) (by omega) ?_ | refine x_sub (by rfl) (by rfl) (by rfl) (by omega) ?_ | refine x_not (by rfl) (by rfl) ?_)
      refine x_idx i (by rfl) (by rfl) (by rfl) ElSz.h rfl hi' ?_
      repeat (first | refine x_move (by rfl) ?_ | refine x_as (by rfl) (by rfl) ?_ | refine x_skip (by rfl) ?_ | refine x_fld (by rfl) (by rfl) FldO.h ?_ | refine x_nilck (by rfl) (by rfl) ?_ | refine x_len (by rfl) (by rfl) ElOf.some ?_ | refine x_ext (by rfl) (by rfl) (by rfl) ?_ | refine x_pickT (by rfl) (by rfl) (by rfl) ?_ | refine x_pickF (by rfl) (by rfl) (by rfl) ?_ | refine x_add (by rfl) (by rfl) (by rfl) (by omega) ?_ | refine x_sub (by rfl) (by rfl) (by rfl) (by omega) ?_ | refine x_not (by rfl) (by rfl) ?_)
      refine w_load (v := .int .i64 ep.mark) (by rfl) (by rfl) (load_one_cell OneT.h (rd_cell (j := 1) ep_len r9 hep rfl rfl rfl)) ?_
      refine w_call (by rfl) (by rfl) (by rfl) (pr_adv ep.mark p9.symm) ?_
      rintro _ w10 ⟨lb, rfl, ownb, hfb, sq10, p10, u10, hin10⟩
      repeat (first | refine x_move (by rfl) ?_ | refine x_as (by rfl) (by rfl) ?_ | refine x_skip (by rfl) ?_ | refine x_fld (by rfl) (by rfl) FldO.h ?_ | refine x_nilck (by rfl) (by rfl) ?_ | refine x_len (by rfl) (by rfl) ElOf.some ?_ | refine x_ext (by rfl) (by rfl) (by rfl) ?_ | refine x_pickT (by rfl) (by rfl) (by rfl) ?_ | refine x_pickF (by rfl) (by rfl) (by rfl) ?_ | refine x_add (by rfl) (by rfl) (by rfl) (by omega) ?_ | refine x_sub (by rfl) (by rfl) (by rfl) (by omega) ?_ | refine x_not (by rfl) (by rfl) ?_)
      refine x_nilw ?_
      replace p10 := p10.symm
      have ls10 := ((ls8.turn u9 fun b hb => .inl (hin9 b hb)).symm.turn u10 fun b hb => .inl (hin10 b hb)).symm
      replace owna := owna.get u10 fun b hb hf => by have := hfa b hb; have := p8.ltb hf; omega
      have hadl : (g2.told ep.mark).length + (g2.adv ep.mark).S.length ≤ g2.S.length ∧ ∀ x ∈ g2.S, x ∈ g2.told ep.mark ∨ x ∈ (g2.adv ep.mark).S := by
        unfold GS.told GS.adv
        split
        · have e := thr_app ep.mark g2.S
          have el := congrArg List.length e
          rw [List.length_append] at el
          refine ⟨by simp only; omega, fun x hx => ?_⟩
          rw [← e] at hx
          exact List.mem_append.1 hx
        · exact ⟨by simp, fun x hx => .inr hx⟩
      obtain ⟨aa, ac, rfl⟩ := owna.slice
      refine swp_fit [(0, .slice (some ⟨b1, o1, none⟩) eps.length c0), (1, .int .i64 k), (2, .int .i64 d), (7, .pointer (some ⟨bg, 0, none⟩)), (9, .pointer (some ⟨bh, 0, none⟩)), (11, .int .i64 ((hd + O.length : Nat))), (12, tv), (13, .int .i64 (i : Nat)), (18, .int .i64 0), (22, .slice aa (g2.told ep.mark).length ac), (23, .int .i64 (g2.acode ep.mark)), (24, lb), (25, .int .i64 (g2.acode ep.mark))] ⟨rfl, rfl, rfl, rfl, rfl, rfl, rfl, rfl, rfl, rfl, rfl, rfl, rfl, trivial⟩ fun ρ => ?_
      obtain ⟨N, _, ga⟩ := p10.a
      obtain ⟨M, _, gb⟩ := p10.b
      (repeat (first | refine swp_seq ?_ | refine swp_block ?_))
      refine PEv.swp_cutQ (fun σ w' => At σ [(0, .slice (some ⟨b1, o1, none⟩) eps.length c0), (1, .int .i64 k), (2, .int .i64 d), (7, .pointer (some ⟨bg, 0, none⟩)), (9, .pointer (some ⟨bh, 0, none⟩)), (11, .int .i64 ((hd + O.length : Nat))), (12, tv), (13, .int .i64 (i : Nat)), (22, .slice aa (g2.told ep.mark).length ac), (178, .bool false)] ∧ Ext w10 w') ?_ ?_
      · (repeat (first | refine swp_seq ?_ | refine swp_block ?_)); refine swp_region (by kernel_rfl) ?_
        repeat (first | refine x_move (by rfl) ?_ | refine x_as (by rfl) (by rfl) ?_ | refine x_skip (by rfl) ?_ | refine x_fld (by rfl) (by rfl) FldO.h ?_ | refine x_nilck (by rfl) (by rfl) ?_ | refine x_len (by rfl) (by rfl) ElOf.some ?_ | refine x_ext (by rfl) (by rfl) (by rfl) ?_ | refine x_pickT (by rfl) (by rfl) (by rfl) ?_ | refine x_pickF (by rfl) (by rfl) (by rfl) ?_ | refine x_add (by rfl) (by rfl) (by rfl) (by omega) ?_ | refine x_sub (by rfl) (by rfl) (by rfl) (by omega) ?_ | refine x_not (by rfl) (by rfl) ?_)
        refine x_neqF (by rfl) (by rfl) (by rfl) (fun h => h rfl) ?_
        repeat (first | refine x_move (by rfl) ?_ | refine x_as (by rfl) (by rfl) ?_ | refine x_skip (by rfl) ?_ | refine x_fld (by rfl) (by rfl) FldO.h ?_ | refine x_nilck (by rfl) (by rfl) ?_ | refine x_len (by rfl) (by rfl) ElOf.some ?_ | refine x_ext (by rfl) (by rfl) (by rfl) ?_ | refine x_pickT (by rfl) (by rfl) (by rfl) ?_ | refine x_pickF (by rfl) (by rfl) (by rfl) ?_ | refine x_add (by rfl) (by rfl) (by rfl) (by omega) ?_ | refine x_sub (by rfl) (by rfl) (by rfl) (by omega) ?_ | refine x_not (by rfl) (by rfl) ?_)
        refine x_neqF (by rfl) (by rfl) (by rfl) (fun h => h rfl) ?_
        repeat (first | refine x_move (by rfl) ?_ | refine x_as (by rfl) (by rfl) ?_ | refine x_skip (by rfl) ?_ | refine x_fld (by rfl) (by rfl) FldO.h ?_ | refine x_nilck (by rfl) (by rfl) ?_ | refine x_len (by rfl) (by rfl) ElOf.some ?_ | refine x_ext (by rfl) (by rfl) (by rfl) ?_ | refine x_pickT (by rfl) (by rfl) (by rfl) ?_ | refine x_pickF (by rfl) (by rfl) (by rfl) ?_ | refine x_add (by rfl) (by rfl) (by rfl) (by omega) ?_ | refine x_sub (by rfl) (by rfl) (by rfl) (by omega) ?_ | refine x_not (by rfl) (by rfl) ?_)
        refine w_call (by rfl) (by rfl) (by rfl) (LEv.same owna.rd ownb.rd (by omega)) ?_
        rintro _ w11 ⟨rfl, u11⟩
        repeat (first | refine x_move (by rfl) ?_ | refine x_as (by rfl) (by rfl) ?_ | refine x_skip (by rfl) ?_ | refine x_fld (by rfl) (by rfl) FldO.h ?_ | refine x_nilck (by rfl) (by rfl) ?_ | refine x_len (by rfl) (by rfl) ElOf.some ?_ | refine x_ext (by rfl) (by rfl) (by rfl) ?_ | refine x_pickT (by rfl) (by rfl) (by rfl) ?_ | refine x_pickF (by rfl) (by rfl) (by rfl) ?_ | refine x_add (by rfl) (by rfl) (by rfl) (by omega) ?_ | refine x_sub (by rfl) (by rfl) (by rfl) (by omega) ?_ | refine x_not (by rfl) (by rfl) ?_)
        refine w_call (by rfl) (by rfl) (by rfl) (g_len (ga.at u11)) ?_
        rintro _ _ ⟨rfl, rfl⟩
        repeat (first | refine x_move (by rfl) ?_ | refine x_as (by rfl) (by rfl) ?_ | refine x_skip (by rfl) ?_ | refine x_fld (by rfl) (by rfl) FldO.h ?_ | refine x_nilck (by rfl) (by rfl) ?_ | refine x_len (by rfl) (by rfl) ElOf.some ?_ | refine x_ext (by rfl) (by rfl) (by rfl) ?_ | refine x_pickT (by rfl) (by rfl) (by rfl) ?_ | refine x_pickF (by rfl) (by rfl) (by rfl) ?_ | refine x_add (by rfl) (by rfl) (by rfl) (by omega) ?_ | refine x_sub (by rfl) (by rfl) (by rfl) (by omega) ?_ | refine x_not (by rfl) (by rfl) ?_)
        refine w_call (by rfl) (by rfl) (by rfl) (g_len (gb.at u11)) ?_
        rintro _ _ ⟨rfl, rfl⟩
        refine x_neqF (by rfl) (by rfl) (by rfl) (fun h => h rfl) ?_
        repeat (first | refine x_move (by rfl) ?_ | refine x_as (by rfl) (by rfl) ?_ | refine x_skip (by rfl) ?_ | refine x_fld (by rfl) (by rfl) FldO.h ?_ | refine x_nilck (by rfl) (by rfl) ?_ | refine x_len (by rfl) (by rfl) ElOf.some ?_ | refine x_ext (by rfl) (by rfl) (by rfl) ?_ | refine x_pickT (by rfl) (by rfl) (by rfl) ?_ | refine x_pickF (by rfl) (by rfl) (by rfl) ?_ | refine x_add (by rfl) (by rfl) (by rfl) (by omega) ?_ | refine x_sub (by rfl) (by rfl) (by rfl) (by omega) ?_ | refine x_not (by rfl) (by rfl) ?_)
        refine x_nilw ?_
        exact ⟨rfl, at_ ⟨rfl, rfl, rfl, rfl, rfl, rfl, rfl, rfl, rfl, rfl, trivial⟩, u11⟩
      rintro σ w11 ⟨⟨ρ, rfl⟩, u11⟩
      refine n_then ?_
      refine swp_false (by rfl) (swp_skip ?_)
      (repeat (first | with_reducible refine n_then ?_ | with_reducible refine n_block ?_ | with_reducible refine n_jump ?_))
      have p11 := p10.at u11
      have ls11 := ls10.at u11
      have owna11 := owna.at u11
      (repeat (first | refine swp_seq ?_ | refine swp_block ?_)); refine swp_region (by kernel_rfl) ?_
      repeat (first | refine x_move (by rfl) ?_ | refine x_as (by rfl) (by rfl) ?_ | refine x_skip (by rfl) ?_ | refine x_fld (by rfl) (by rfl) FldO.h ?_ | refine x_nilck (by rfl) (by rfl) ?_ | refine x_len (by rfl) (by rfl) ElOf.some ?_ | refine x_ext (by rfl) (by rfl) (by rfl) ?_ | refine x_pickT (by rfl) (by rfl) (by rfl) ?_ | refine x_pickF (by rfl) (by rfl) (by rfl) ?_ | refine x_add (by rfl) (by rfl) (by rfl) (by omega) ?_ | refine x_sub (by rfl) (by rfl) (by rfl) (by omega) ?_ | refine x_not (by rfl) (by rfl) ?_)
      refine w_appendR (by rfl) (by rfl) (by rfl) (by rfl) SlC.h ls11.own owna11.rd (PEv.fl_one' ev_one _) (room88 (by omega)) ?_
      intro tv12 w12 own12 u12 hin12
      repeat (first | refine x_move (by rfl) ?_ | refine x_as (by rfl) (by rfl) ?_ | refine x_skip (by rfl) ?_ | refine x_fld (by rfl) (by rfl) FldO.h ?_ | refine x_nilck (by rfl) (by rfl) ?_ | refine x_len (by rfl) (by rfl) ElOf.some ?_ | refine x_ext (by rfl) (by rfl) (by rfl) ?_ | refine x_pickT (by rfl) (by rfl) (by rfl) ?_ | refine x_pickF (by rfl) (by rfl) (by rfl) ?_ | refine x_add (by rfl) (by rfl) (by rfl) (by omega) ?_ | refine x_sub (by rfl) (by rfl) (by rfl) (by omega) ?_ | refine x_not (by rfl) (by rfl) ?_)
      refine x_nilw ?_
      (repeat (first | with_reducible refine n_then ?_ | with_reducible refine n_block ?_ | with_reducible refine n_jump ?_))
      (repeat (first | refine swp_seq ?_ | refine swp_block ?_)); refine swp_region (by kernel_rfl) ?_
      repeat (first | refine x_move (by rfl) ?_ | refine x_as (by rfl) (by rfl) ?_ | refine x_skip (by rfl) ?_ | refine x_fld (by rfl) (by rfl) FldO.h ?_ | refine x_nilck (by rfl) (by rfl) ?_ | refine x_len (by rfl) (by rfl) ElOf.some ?_ | refine x_ext (by rfl) (by rfl) (by rfl) ?_ | refine x_pickT (by rfl) (by rfl) (by rfl) ?_ | refine x_pickF (by rfl) (by rfl) (by rfl) ?_ | refine x_add (by rfl) (by rfl) (by rfl) (by omega) ?_ | refine x_sub (by rfl) (by rfl) (by rfl) (by omega) ?_ | refine x_not (by rfl) (by rfl) ?_)
      refine x_nilw ?_
      have s11 := p11.u.size
      have p12 := p11.get u12 (fun x hx hf => (ls11.fr x hf).1 hx) (fun x hx hf => (ls11.fr x hf).2 hx) htv
      refine ⟨i + 1, ⟨_, _, g2.adv ep.mark, hd + O.length, tv12, told ++ g2.told ep.mark, at_ ⟨rfl, rfl, rfl, rfl, rfl, rfl, rfl, rfl, trivial⟩, by omega, p12.le (by omega), ?_, (cap_adv g2 ep.mark).trans hcap', ?_, hOl, ⟨by rw [List.length_append, fl_append]; exact own12, fun b hb => ?_⟩, fun b hb => (hin12 b hb).elim (htv b) fun h => by omega, ?_⟩, by omega⟩
      · unfold GS.adv
        split
        · exact hsh'
        · exact hsh'
      · rw [List.length_append]
        omega
      · rcases hin12 b hb with h | h
        · exact ls11.fr b h
        · exact ⟨fun hf => by have := p11.lta hf; omega, fun hf => by have := p11.ltb hf; omega⟩
      · rcases hM' with h | h
        · exact .inl (List.mem_append_left _ h)
        · exact (hadl.2 _ h).imp (fun h => List.mem_append_right _ h) id
  · have hft : g.ftold = g.S := by unfold GS.ftold; rw [hsh, if_neg (by decide)]
    have hfc : g.fcode = 0 := by unfold GS.fcode; rw [hsh, if_neg (by decide)]
    refine swp_exit ?_; (repeat (first | with_reducible refine e_then ?_ | with_reducible refine e_jump ?_)); refine e_block ?_; (repeat (first | with_reducible refine n_then ?_ | with_reducible refine n_block ?_ | with_reducible refine n_jump ?_))
    refine swp_fit [(7, .pointer (some ⟨bg, 0, none⟩)), (9, .pointer (some ⟨bh, 0, none⟩)), (12, tv)] ⟨rfl, rfl, rfl, trivial⟩ fun ρ => ?_
    (repeat (first | refine swp_seq ?_ | refine swp_block ?_)); refine swp_region (by kernel_rfl) ?_
    repeat (first | refine x_move (by rfl) ?_ | refine x_as (by rfl) (by rfl) ?_ | refine x_skip (by rfl) ?_ | refine x_fld (by rfl) (by rfl) FldO.h ?_ | refine x_nilck (by rfl) (by rfl) ?_ | refine x_len (by rfl) (by rfl) ElOf.some ?_ | refine x_ext (by rfl) (by rfl) (by rfl) ?_ | refine x_pickT (by rfl) (by rfl) (by rfl) ?_ | refine x_pickF (by rfl) (by rfl) (by rfl) ?_ | refine x_add (by rfl) (by rfl) (by rfl) (by omega) ?_ | refine x_sub (by rfl) (by rfl) (by rfl) (by omega) ?_ | refine x_not (by rfl) (by rfl) ?_)
    refine w_call (by rfl) (by rfl) (by rfl) (pr_flush p5) ?_
    rintro _ w6 ⟨la, rfl, owna, hfa, sp6, p6, u6, hin6⟩
    repeat (first | refine x_move (by rfl) ?_ | refine x_as (by rfl) (by rfl) ?_ | refine x_skip (by rfl) ?_ | refine x_fld (by rfl) (by rfl) FldO.h ?_ | refine x_nilck (by rfl) (by rfl) ?_ | refine x_len (by rfl) (by rfl) ElOf.some ?_ | refine x_ext (by rfl) (by rfl) (by rfl) ?_ | refine x_pickT (by rfl) (by rfl) (by rfl) ?_ | refine x_pickF (by rfl) (by rfl) (by rfl) ?_ | refine x_add (by rfl) (by rfl) (by rfl) (by omega) ?_ | refine x_sub (by rfl) (by rfl) (by rfl) (by omega) ?_ | refine x_not (by rfl) (by rfl) ?_)
    refine x_nilw ?_
    refine swp_fit [(9, .pointer (some ⟨bh, 0, none⟩)), (12, tv), (26, la), (27, .int .i64 g.fcode)] ⟨rfl, rfl, rfl, rfl, trivial⟩ fun ρ => ?_
    (repeat (first | refine swp_seq ?_ | refine swp_block ?_)); refine swp_region (by kernel_rfl) ?_
    repeat (first | refine x_move (by rfl) ?_ | refine x_as (by rfl) (by rfl) ?_ | refine x_skip (by rfl) ?_ | refine x_fld (by rfl) (by rfl) FldO.h ?_ | refine x_nilck (by rfl) (by rfl) ?_ | refine x_len (by rfl) (by rfl) ElOf.some ?_ | refine x_ext (by rfl) (by rfl) (by rfl) ?_ | refine x_pickT (by rfl) (by rfl) (by rfl) ?_ | refine x_pickF (by rfl) (by rfl) (by rfl) ?_ | refine x_add (by rfl) (by rfl) (by rfl) (by omega) ?_ | refine x_sub (by rfl) (by rfl) (by rfl) (by omega) ?_ | refine x_not (by rfl) (by rfl) ?_)
    refine w_call (by rfl) (by rfl) (by rfl) (pr_flush p6.symm) ?_
    rintro _ w7 ⟨lb, rfl, ownb, hfb, sq7, p7, u7, hin7⟩
    repeat (first | refine x_move (by rfl) ?_ | refine x_as (by rfl) (by rfl) ?_ | refine x_skip (by rfl) ?_ | refine x_fld (by rfl) (by rfl) FldO.h ?_ | refine x_nilck (by rfl) (by rfl) ?_ | refine x_len (by rfl) (by rfl) ElOf.some ?_ | refine x_ext (by rfl) (by rfl) (by rfl) ?_ | refine x_pickT (by rfl) (by rfl) (by rfl) ?_ | refine x_pickF (by rfl) (by rfl) (by rfl) ?_ | refine x_add (by rfl) (by rfl) (by rfl) (by omega) ?_ | refine x_sub (by rfl) (by rfl) (by rfl) (by omega) ?_ | refine x_not (by rfl) (by rfl) ?_)
    refine x_nilw ?_
    have ls7 := ((ls5.turn u6 fun b hb => .inl (hin6 b hb)).symm.turn u7 fun b hb => .inl (hin7 b hb)).symm
    replace owna := owna.get u7 fun b hb hf => by have := hfa b hb; have := p5.ltb hf; omega
    refine swp_fit [(12, tv), (26, la), (27, .int .i64 g.fcode), (28, lb), (29, .int .i64 g.fcode)] ⟨rfl, rfl, rfl, rfl, rfl, trivial⟩ fun ρ => ?_
    obtain ⟨aa, ac, rfl⟩ := owna.slice
    have hfl : g.ftold.length = g.S.length := by rw [hft]
    (repeat (first | refine swp_seq ?_ | refine swp_block ?_)); refine swp_region (by kernel_rfl) ?_
    repeat (first | refine x_move (by rfl) ?_ | refine x_as (by rfl) (by rfl) ?_ | refine x_skip (by rfl) ?_ | refine x_fld (by rfl) (by rfl) FldO.h ?_ | refine x_nilck (by rfl) (by rfl) ?_ | refine x_len (by rfl) (by rfl) ElOf.some ?_ | refine x_ext (by rfl) (by rfl) (by rfl) ?_ | refine x_pickT (by rfl) (by rfl) (by rfl) ?_ | refine x_pickF (by rfl) (by rfl) (by rfl) ?_ | refine x_add (by rfl) (by rfl) (by rfl) (by omega) ?_ | refine x_sub (by rfl) (by rfl) (by rfl) (by omega) ?_ | refine x_not (by rfl) (by rfl) ?_)
    refine w_appendR (by rfl) (by rfl) (by rfl) (by rfl) SlC.h ls7.own owna.rd (PEv.fl_one' ev_one _) (room88 (by omega)) ?_
    intro tv8 w8 own8 u8 hin8
    repeat (first | refine x_move (by rfl) ?_ | refine x_as (by rfl) (by rfl) ?_ | refine x_skip (by rfl) ?_ | refine x_fld (by rfl) (by rfl) FldO.h ?_ | refine x_nilck (by rfl) (by rfl) ?_ | refine x_len (by rfl) (by rfl) ElOf.some ?_ | refine x_ext (by rfl) (by rfl) (by rfl) ?_ | refine x_pickT (by rfl) (by rfl) (by rfl) ?_ | refine x_pickF (by rfl) (by rfl) (by rfl) ?_ | refine x_add (by rfl) (by rfl) (by rfl) (by omega) ?_ | refine x_sub (by rfl) (by rfl) (by rfl) (by omega) ?_ | refine x_not (by rfl) (by rfl) ?_)
    refine x_nilw ?_
    rw [← fl_append, ← List.length_append] at own8
    have hmem : evM ∈ told ++ g.ftold := by rw [hft]; exact List.mem_append.2 hM
    have s7 := p7.u.size
    have s5 := p5.u.size
    have s6 := u6.size
    have s67 := u7.size
    have htvl : ∀ b, isIn tv b → b < w5.heap.size := fun b hb => ls5.own.lt hb
    have owna8 := owna.get u8 fun b hb hf => by have := hfa b hb; have := htvl b hf; omega
    have ownb8 := ownb.get u8 fun b hb hf => by have := hfb b hb; have := htvl b hf; omega
    have u08 : Ext w w8 := p7.u.trans' u8 fun b hb hf => by have := htv b hf; omega
    have htl8 : (told ++ g.ftold).length ≤ 5000 := by rw [List.length_append]; omega
    (repeat (first | refine swp_seq ?_ | refine swp_block ?_)); refine swp_region (by kernel_rfl) ?_
    repeat (first | refine x_move (by rfl) ?_ | refine x_as (by rfl) (by rfl) ?_ | refine x_skip (by rfl) ?_ | refine x_fld (by rfl) (by rfl) FldO.h ?_ | refine x_nilck (by rfl) (by rfl) ?_ | refine x_len (by rfl) (by rfl) ElOf.some ?_ | refine x_ext (by rfl) (by rfl) (by rfl) ?_ | refine x_pickT (by rfl) (by rfl) (by rfl) ?_ | refine x_pickF (by rfl) (by rfl) (by rfl) ?_ | refine x_add (by rfl) (by rfl) (by rfl) (by omega) ?_ | refine x_sub (by rfl) (by rfl) (by rfl) (by omega) ?_ | refine x_not (by rfl) (by rfl) ?_)
    refine x_eqlT (by rfl) (by rfl) (by rfl) hfc ?_
    repeat (first | refine x_move (by rfl) ?_ | refine x_as (by rfl) (by rfl) ?_ | refine x_skip (by rfl) ?_ | refine x_fld (by rfl) (by rfl) FldO.h ?_ | refine x_nilck (by rfl) (by rfl) ?_ | refine x_len (by rfl) (by rfl) ElOf.some ?_ | refine x_ext (by rfl) (by rfl) (by rfl) ?_ | refine x_pickT (by rfl) (by rfl) (by rfl) ?_ | refine x_pickF (by rfl) (by rfl) (by rfl) ?_ | refine x_add (by rfl) (by rfl) (by rfl) (by omega) ?_ | refine x_sub (by rfl) (by rfl) (by rfl) (by omega) ?_ | refine x_not (by rfl) (by rfl) ?_)
    refine x_eqlT (by rfl) (by rfl) (by rfl) hfc ?_
    repeat (first | refine x_move (by rfl) ?_ | refine x_as (by rfl) (by rfl) ?_ | refine x_skip (by rfl) ?_ | refine x_fld (by rfl) (by rfl) FldO.h ?_ | refine x_nilck (by rfl) (by rfl) ?_ | refine x_len (by rfl) (by rfl) ElOf.some ?_ | refine x_ext (by rfl) (by rfl) (by rfl) ?_ | refine x_pickT (by rfl) (by rfl) (by rfl) ?_ | refine x_pickF (by rfl) (by rfl) (by rfl) ?_ | refine x_add (by rfl) (by rfl) (by rfl) (by omega) ?_ | refine x_sub (by rfl) (by rfl) (by rfl) (by omega) ?_ | refine x_not (by rfl) (by rfl) ?_)
    refine w_call (by rfl) (by rfl) (by rfl) (LEv.same owna8.rd ownb8.rd (by omega)) ?_
    rintro _ w9 ⟨rfl, u9⟩
    repeat (first | refine x_move (by rfl) ?_ | refine x_as (by rfl) (by rfl) ?_ | refine x_skip (by rfl) ?_ | refine x_fld (by rfl) (by rfl) FldO.h ?_ | refine x_nilck (by rfl) (by rfl) ?_ | refine x_len (by rfl) (by rfl) ElOf.some ?_ | refine x_ext (by rfl) (by rfl) (by rfl) ?_ | refine x_pickT (by rfl) (by rfl) (by rfl) ?_ | refine x_pickF (by rfl) (by rfl) (by rfl) ?_ | refine x_add (by rfl) (by rfl) (by rfl) (by omega) ?_ | refine x_sub (by rfl) (by rfl) (by rfl) (by omega) ?_ | refine x_not (by rfl) (by rfl) ?_)
    refine x_build (v := evM.v) (by rfl) (by rfl) (fun _ => by kernel_rfl) ?_
    refine w_call (by rfl) (by rfl) (by rfl) (in_ evM (own8.rd.at u9) hmem (by omega)) ?_
    rintro _ w10 ⟨rfl, u10⟩
    repeat (first | refine x_move (by rfl) ?_ | refine x_as (by rfl) (by rfl) ?_ | refine x_skip (by rfl) ?_ | refine x_fld (by rfl) (by rfl) FldO.h ?_ | refine x_nilck (by rfl) (by rfl) ?_ | refine x_len (by rfl) (by rfl) ElOf.some ?_ | refine x_ext (by rfl) (by rfl) (by rfl) ?_ | refine x_pickT (by rfl) (by rfl) (by rfl) ?_ | refine x_pickF (by rfl) (by rfl) (by rfl) ?_ | refine x_add (by rfl) (by rfl) (by rfl) (by omega) ?_ | refine x_sub (by rfl) (by rfl) (by rfl) (by omega) ?_ | refine x_not (by rfl) (by rfl) ?_)
    refine x_nilw ?_
    refine swp_ret ?_; (repeat (first | with_reducible refine r_then ?_ | with_reducible refine r_block ?_ | with_reducible refine r_jump ?_))
    exact post1 rfl rfl ⟨_, rfl, rfl, (u08.trans u9).trans u10⟩
end Go.Proofs.Ytnhecopgecoloaa
