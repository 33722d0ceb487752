/- A slice that came in has no more things than room. No conditions. -/
import Derived.Test.YtfcbiclmejeihaaRw
namespace Go.Proofs.Ytfcbiclmejeihaa
open Sx
open Go.ChangeShapes Go.WideShapes Go.ChangeAt Go.RowKit
theorem open_cap {H : Type} {enc : TypeId × Value → H} {W : World} {base : Nat} {spare : Nat → Bool} {held : Bool} {t e : TypeId} {a : Option Addr} {n c : Nat} {d : DataW H} {ps : List MemPlace} (hu : Try.prog.underlying t = some (.slice e)) (h : DataW.Trod enc Try.prog W base spare held t (.slice a n c) d ps) : n ≤ c := by
  obtain ⟨fuel, hf⟩ := h
  rcases Go.Deep.open_slice hu hf with ⟨hcs, _⟩ | ⟨a', len', cap', m, k, D, Pl, hcs, _, hlc, _⟩
  · simp [Value.cells] at hcs
    omega
  · simp [Value.cells] at hcs
    omega
end Go.Proofs.Ytfcbiclmejeihaa
