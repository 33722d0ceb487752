/- A step of a script that came in reads as one. No conditions. -/
import Derived.Test.YtnhecopgecoloaaRw
import Derived.Test.YtnhecopgecoloaaGh
namespace Go.Proofs.Ytnhecopgecoloaa
open Sx
open Go.ChangeShapes Go.WideShapes Go.ChangeAt Go.RowKit
section
variable {H : Type} {enc : TypeId × Value → H} {W : World} {base : Nat} {spare : Nat → Bool} {held : Bool} {fuel : Nat} {cs : List Value} {x : DataW H × List MemPlace}
set_option maxRecDepth 100000 in
theorem open_gop (h : DataW.trod enc Try.prog W base spare held fuel 51 cs = some x) : ∃ o : Gop, cs = o.cells := by
  obtain ⟨n, hl, hf⟩ := struct_field (l := [(3, 0), (3, 1), (30, 2), (2, 13)]) (by kernel_rfl) (by kernel_rfl) h
  have c2 : Try.prog.cellsOf 2 = 1 := by kernel_rfl
  have c3 : Try.prog.cellsOf 3 = 1 := by kernel_rfl
  have c30 : Try.prog.cellsOf 30 = 11 := by kernel_rfl
  have c51 : Try.prog.cellsOf 51 = 14 := by kernel_rfl
  have u2 : Try.prog.underlying 2 = some (.int .i64) := by kernel_rfl
  have u3 : Try.prog.underlying 3 = some (.int .i64) := by kernel_rfl
  rw [c51] at hl
  match cs, hl with
  | [v0, v1, v2, v3, v4, v5, v6, v7, v8, v9, v10, v11, v12, v13], _ =>
    obtain ⟨_, f0⟩ := hf 0 3 0 rfl
    obtain ⟨_, f1⟩ := hf 1 3 1 rfl
    obtain ⟨_, f2⟩ := hf 2 30 2 rfl
    obtain ⟨_, f3⟩ := hf 3 2 13 rfl
    rw [c3] at f0
    rw [c3] at f1
    rw [c30] at f2
    rw [c2] at f3
    obtain ⟨n0, e0, _⟩ := DataW.trod_int u3 f0
    obtain ⟨n1, e1, _⟩ := DataW.trod_int u3 f1
    obtain ⟨e, he⟩ := open_ev f2
    obtain ⟨n3, e3, _⟩ := DataW.trod_int u2 f3
    simp at e0 e1 he e3
    subst e0 e1 e3
    refine ⟨⟨n0, n1, e, n3⟩, ?_⟩
    unfold Gop.cells
    rw [← he]
    rfl
end
end Go.Proofs.Ytnhecopgecoloaa
