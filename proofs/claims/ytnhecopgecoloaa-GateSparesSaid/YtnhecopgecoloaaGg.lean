/- Two gates beside each other. Conditions: fewer than 2^62 pushes. -/
import Derived.Test.YtnhecopgecoloaaGe
namespace Go.Proofs.Ytnhecopgecoloaa
open Hp Sx

structure Pr (w0 w : World) (bg r bp : Nat) (sp : Value) (bh rh bq : Nat) (sq : Value) (g h : GS) (n : Nat) : Prop where
  a : ∃ N, N ≤ n ∧ Gt w bg r bp sp g N
  b : ∃ N, N ≤ n ∧ Gt w bh rh bq sq h N
  d : ∀ x, gfoot bg r bp sp x → ¬ gfoot bh rh bq sq x
  fa : ∀ x, gfoot bg r bp sp x → w0.heap.size ≤ x
  fb : ∀ x, gfoot bh rh bq sq x → w0.heap.size ≤ x
  oa : g.Ok
  ob : h.Ok
  u : Ext w0 w
section
variable {w0 w : World} {bg r bp bh rh bq : Nat} {sp sq : Value} {g h : GS} {n : Nat}
theorem Pr.symm (p : Pr w0 w bg r bp sp bh rh bq sq g h n) : Pr w0 w bh rh bq sq bg r bp sp h g n := ⟨p.b, p.a, fun x h1 h2 => p.d x h2 h1, p.fb, p.fa, p.ob, p.oa, p.u⟩
theorem Pr.at {w' : World} (p : Pr w0 w bg r bp sp bh rh bq sq g h n) (u : Ext w w') : Pr w0 w' bg r bp sp bh rh bq sq g h n := by
  obtain ⟨⟨N, hN, ha⟩, ⟨M, hM, hb⟩, d, fa, fb, oa, ob, u0⟩ := p
  exact ⟨⟨N, hN, ha.at u⟩, ⟨M, hM, hb.at u⟩, d, fa, fb, oa, ob, u0.trans u⟩
theorem Pr.get {F : Nat → Prop} {w' : World} (p : Pr w0 w bg r bp sp bh rh bq sq g h n) (u : Upd F w w') (h1 : ∀ x, gfoot bg r bp sp x → ¬ F x) (h2 : ∀ x, gfoot bh rh bq sq x → ¬ F x) (h3 : ∀ x, F x → w0.heap.size ≤ x) : Pr w0 w' bg r bp sp bh rh bq sq g h n := by
  obtain ⟨⟨N, hN, ha⟩, ⟨M, hM, hb⟩, d, fa, fb, oa, ob, u0⟩ := p
  exact ⟨⟨N, hN, ha.get u h1⟩, ⟨M, hM, hb.get u h2⟩, d, fa, fb, oa, ob, u0.trans' u fun b hb hf => by have := h3 b hf; omega⟩
theorem Pr.le {m : Nat} (p : Pr w0 w bg r bp sp bh rh bq sq g h n) (hm : n ≤ m) : Pr w0 w bg r bp sp bh rh bq sq g h m := by
  obtain ⟨⟨N, hN, ha⟩, ⟨M, hM, hb⟩, d, fa, fb, oa, ob, u0⟩ := p
  exact ⟨⟨N, by omega, ha⟩, ⟨M, by omega, hb⟩, d, fa, fb, oa, ob, u0⟩
theorem Pr.lta (p : Pr w0 w bg r bp sp bh rh bq sq g h n) {x : Nat} (hx : gfoot bg r bp sp x) : x < w.heap.size := by obtain ⟨N, _, ha⟩ := p.a; exact ha.lt hx
theorem Pr.ltb (p : Pr w0 w bg r bp sp bh rh bq sq g h n) {x : Nat} (hx : gfoot bh rh bq sq x) : x < w.heap.size := p.symm.lta hx
theorem pr_push (e : Ev) (p : Pr w0 w bg r bp sp bh rh bq sq g h n) (hn : n ≤ 4611686018427387903) : Gets Try.prog 12 [.pointer (some ⟨bg, 0, none⟩), e.v] w fun v w' =>
    v = .int .i64 (g.pcode e) ∧ ∃ sp', Pr w0 w' bg r bp sp' bh rh bq sq (g.push e) h (n + 1) ∧ Upd (gfoot bg r bp sp) w w' := by
  obtain ⟨N, hN, ha⟩ := p.a
  obtain ⟨M, hM, hb⟩ := p.b
  refine (g_push e ha p.oa (by omega)).mono fun v w' ⟨hv, sp', N', g', hN', u, hin⟩ => ⟨hv, sp', ?_, u⟩
  have s0 := p.u.size
  refine ⟨⟨N', by omega, g'⟩, ⟨M, by omega, hb.get u fun x hx hf => p.d x hf hx⟩, fun x hx hx' => ?_, fun x hx => ?_, p.fb, GS.push_ok p.oa e, p.ob, p.u.trans' u fun b hb hf => by have := p.fa b hf; omega⟩
  · rcases hin x hx with hf | hf
    · exact p.d x hf hx'
    · have := hb.lt hx'; omega
  · rcases hin x hx with hf | hf
    · exact p.fa x hf
    · omega
theorem pr_tells {w' : World} {lv : Value} {l : List Ev} {g' : GS} {N : Nat} (p : Pr w0 w bg r bp sp bh rh bq sq g h n) (ok : g'.Ok) (hN : N ≤ n) (t : Tells w w' bg r bp sp lv l g' N) :
    Own w' 30 11 lv l.length (fl Ev.cells l) ∧ (∀ b, isIn lv b → w.heap.size ≤ b) ∧ ∃ sp', Pr w0 w' bg r bp sp' bh rh bq sq g' h n ∧ Upd (gfoot bg r bp sp) w w' ∧ ∀ x, gfoot bg r bp sp' x → gfoot bg r bp sp x := by
  obtain ⟨own, hfr, sp', g1, u, hin⟩ := t
  obtain ⟨M, hM, hb⟩ := p.b
  exact ⟨own, hfr, sp', ⟨⟨N, hN, g1⟩, ⟨M, hM, hb.get u fun x hx hf => p.d x hf hx⟩, fun x hx => p.d x (hin x hx), fun x hx => p.fa x (hin x hx), p.fb, ok, p.ob, p.u.trans' u fun b hb hf => by have := p.fa b hf; have := p.u.size; omega⟩, u, hin⟩
theorem pr_adv (m : Int) (p : Pr w0 w bg r bp sp bh rh bq sq g h n) : Gets Try.prog 14 [.pointer (some ⟨bg, 0, none⟩), .int .i64 m] w fun v w' =>
    ∃ lv, v = .tuple #[lv, .int .i64 (g.acode m)] ∧ Own w' 30 11 lv (g.told m).length (fl Ev.cells (g.told m)) ∧ (∀ b, isIn lv b → w.heap.size ≤ b) ∧ ∃ sp', Pr w0 w' bg r bp sp' bh rh bq sq (g.adv m) h n ∧ Upd (gfoot bg r bp sp) w w' ∧ ∀ x, gfoot bg r bp sp' x → gfoot bg r bp sp x := by
  obtain ⟨N, hN, ha⟩ := p.a
  exact (g_advance m ha p.oa).mono fun v w' ⟨lv, hv, t⟩ => ⟨lv, hv, pr_tells p (GS.adv_ok p.oa m) hN t⟩
theorem pr_flush (p : Pr w0 w bg r bp sp bh rh bq sq g h n) : Gets Try.prog 18 [.pointer (some ⟨bg, 0, none⟩)] w fun v w' =>
    ∃ lv, v = .tuple #[lv, .int .i64 g.fcode] ∧ Own w' 30 11 lv g.ftold.length (fl Ev.cells g.ftold) ∧ (∀ b, isIn lv b → w.heap.size ≤ b) ∧ ∃ sp', Pr w0 w' bg r bp sp' bh rh bq sq g.flush h n ∧ Upd (gfoot bg r bp sp) w w' ∧ ∀ x, gfoot bg r bp sp' x → gfoot bg r bp sp x := by
  obtain ⟨N, hN, ha⟩ := p.a
  exact (g_flush ha p.oa).mono fun v w' ⟨lv, hv, t⟩ => ⟨lv, hv, pr_tells p (GS.flush_ok p.oa) hN t⟩
end
theorem adv_no {g : GS} {m : Int} (h : g.acode m ≠ 0) : g.adv m = g := by unfold GS.adv; rw [if_neg h]
theorem flush_no {g : GS} (h : g.fcode ≠ 0) : g.flush = g := by
  unfold GS.flush
  unfold GS.fcode at h
  split
  · rfl
  · next hs => rw [if_neg hs] at h; exact absurd rfl h
/-- two new gates beside each other -/
theorem pr_new {w w1 w2 : World} {bg r bp bh rh bq : Nat} {sp sq : Value} {c d : Int} (h1 : 1 ≤ c ∧ c ≤ 4096) (h2 : 1 ≤ d ∧ d ≤ 4096) (u1 : Ext w w1) (g1 : Gt w1 bg r bp sp (fresh c) 0) (f1 : ∀ b, gfoot bg r bp sp b → w.heap.size ≤ b) (u2 : Ext w1 w2) (g2 : Gt w2 bh rh bq sq (fresh d) 0) (f2 : ∀ b, gfoot bh rh bq sq b → w1.heap.size ≤ b) :
    Pr w w2 bg r bp sp bh rh bq sq (fresh c) (fresh d) 0 := by
  have s1 := u1.size
  exact ⟨⟨0, by omega, g1.at u2⟩, ⟨0, by omega, g2⟩, fun x hx hx' => by have := g1.lt hx; have := f2 x hx'; omega, f1, fun x hx => by have := f2 x hx; omega, fresh_ok h1.1 h1.2, fresh_ok h2.1 h2.2, u1.trans u2⟩
end Go.Proofs.Ytnhecopgecoloaa
