/- A gate and the document's beside it: a step of a script. Conditions: fewer than 2^61 pushes. -/
import Derived.Test.YtnhecopgecoloaaGo
namespace Go.Proofs.Ytnhecopgecoloaa
open Hp Sx

def pfoot (pb bg r bp : Nat) (sp : Value) (bm : Nat) (sl : Value) (b : Nat) : Prop := b = pb ∨ gfoot bg r bp sp b ∨ mfoot bm sl b
def GS.Ok2 (g : GS) : Prop := g.shut = true → g.mark = maxT ∧ g.S = []
/-- The pair behind pb, both there. -/
structure PaL (w : World) (pb bg r bp : Nat) (sp : Value) (bm : Nat) (sl : Value) (g : GS) (N : Nat) : Prop where
  blk : Blk w pb 70 [.pointer (some ⟨bg, 0, none⟩), .pointer (some ⟨bm, 0, none⟩), .int .i64 g.cap]
  gt : Gt w bg r bp sp g N
  mo : Mo w bm sl g
  ok : g.Ok
  ok2 : g.Ok2
  d : ∀ b, gfoot bg r bp sp b → ¬ mfoot bm sl b
  e : ¬ gfoot bg r bp sp pb ∧ ¬ mfoot bm sl pb
theorem PaL.get {F : Nat → Prop} {w w' : World} {pb bg r bp bm N : Nat} {sp sl : Value} {g : GS} (p : PaL w pb bg r bp sp bm sl g N) (u : Upd F w w') (hn : ∀ b, pfoot pb bg r bp sp bm sl b → ¬ F b) : PaL w' pb bg r bp sp bm sl g N :=
  ⟨p.blk.get u (hn pb (.inl rfl)), p.gt.get u fun b hb => hn b (.inr (.inl hb)), p.mo.get u fun b hb => hn b (.inr (.inr hb)), p.ok, p.ok2, p.d, p.e⟩
theorem PaL.at {w w' : World} {pb bg r bp bm N : Nat} {sp sl : Value} {g : GS} (p : PaL w pb bg r bp sp bm sl g N) (u : Ext w w') : PaL w' pb bg r bp sp bm sl g N := p.get u fun _ _ h => h
theorem PaL.lt {w : World} {pb bg r bp bm N : Nat} {sp sl : Value} {g : GS} (p : PaL w pb bg r bp sp bm sl g N) {b : Nat} (hb : pfoot pb bg r bp sp bm sl b) : b < w.heap.size := by
  rcases hb with rfl | hb | hb
  · exact p.blk.lt
  · exact p.gt.lt hb
  · exact p.mo.lt hb
theorem PaL.step {w w1 w2 : World} {pb bg r bp bm N N' : Nat} {sp sl sp' sl' : Value} {g g' : GS} (p : PaL w pb bg r bp sp bm sl g N) (G : Gt w1 bg r bp sp' g' N') (uG : Upd (gfoot bg r bp sp) w w1) (hG : ∀ b, gfoot bg r bp sp' b → gfoot bg r bp sp b ∨ w.heap.size ≤ b)
    (M : Mo w2 bm sl' g') (uM : Upd (fun b => b = bm) w1 w2) (hM : ∀ b, mfoot bm sl' b → mfoot bm sl b ∨ w1.heap.size ≤ b) (hc : g'.cap = g.cap) (ok : g'.Ok) (ok2 : g'.Ok2) :
    PaL w2 pb bg r bp sp' bm sl' g' N' ∧ Upd (pfoot pb bg r bp sp bm sl) w w2 ∧ ∀ b, pfoot pb bg r bp sp' bm sl' b → pfoot pb bg r bp sp bm sl b ∨ w.heap.size ≤ b := by
  have s1 := uG.size
  have hbm := p.mo.lt (.inl rfl)
  have hpb := p.blk.lt
  have hbg : ¬ gfoot bg r bp sp bm := fun h => p.d bm h (.inl rfl)
  refine ⟨⟨?_, ?_, M, ok, ok2, fun b hb hb' => ?_, ⟨fun hb => ?_, fun hb => ?_⟩⟩, ?_, fun b hb => ?_⟩
  · rw [hc]
    exact (p.blk.get uG p.e.1).get uM fun e => p.e.2 (.inl e)
  · refine G.get uM fun b hb e => ?_
    have e' : b = bm := e
    subst e'
    rcases hG b hb with h | h
    · exact hbg h
    · omega
  · have := G.lt hb
    rcases hG b hb with h | h <;> rcases hM b hb' with h' | h'
    · exact p.d b h h'
    · omega
    · have := p.mo.lt h'; omega
    · omega
  · rcases hG pb hb with h | h
    · exact p.e.1 h
    · omega
  · rcases hM pb hb with h | h
    · exact p.e.2 h
    · omega
  · exact (uG.mono fun b hb => .inr (.inl hb)).trans (uM.mono fun b e => .inr (.inr (.inl e)))
  · rcases hb with hb | hb | hb
    · exact .inl (.inl hb)
    · exact (hG b hb).imp (fun h => .inr (.inl h)) id
    · exact (hM b hb).imp (fun h => .inr (.inr h)) fun h => by omega
theorem ok2_push {g : GS} (h : g.Ok2) (e : Ev) : (g.push e).Ok2 := by
  by_cases hs : g.shut = true
  · rw [push_no (by unfold GS.pcode; rw [if_pos hs]; decide)]
    exact h
  · intro h'
    exact absurd ((push_keep g e).1.symm.trans h') hs
theorem ok2_adv {g : GS} (h : g.Ok2) (m : Int) : (g.adv m).Ok2 := by
  by_cases hs : g.shut = true
  · rw [adv_no (by unfold GS.acode; rw [if_pos hs]; decide)]
    exact h
  · intro h'
    unfold GS.adv at h'
    split at h'
    · exact absurd h' hs
    · exact absurd h' hs
theorem ok2_flush {g : GS} (h : g.Ok2) : g.flush.Ok2 := by
  by_cases hs : g.shut = true
  · rw [flush_no (by unfold GS.fcode; rw [if_pos hs]; decide)]
    exact h
  · intro _
    unfold GS.flush
    rw [if_neg hs]
    exact ⟨rfl, rfl⟩
theorem cap_push (g : GS) (e : Ev) : (g.push e).cap = g.cap := (push_keep g e).2.2.1
theorem cap_adv (g : GS) (m : Int) : (g.adv m).cap = g.cap := by unfold GS.adv; split <;> rfl
theorem cap_flush (g : GS) : g.flush.cap = g.cap := by unfold GS.flush; split <;> rfl
/-- what a step leaves -/
def Left (w w' : World) (pb : Nat) (F : Nat → Prop) (n : Nat) : Prop :=
  ∃ bg r bp sp bm sl g N, PaL w' pb bg r bp sp bm sl g N ∧ N ≤ n ∧ Upd F w w' ∧ ∀ b, pfoot pb bg r bp sp bm sl b → F b ∨ w.heap.size ≤ b
end Go.Proofs.Ytnhecopgecoloaa
