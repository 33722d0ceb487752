/- Common laws, more. No conditions. -/
import Derived.Test.YtpnigekkbmanlaaCm
namespace Go.Proofs.Ytpnigekkbmanlaa
namespace PEv
open Sx
/-- A cut after one piece of code that goes on. -/
theorem swp_cutQ {P : Program} {n : Nat} {x : Code} {Q : Exit → Fr → World → Prop} {σ : Fr} {w : World} (Φ : Fr → World → Prop) (h1 : swp P n x (fun e σ w => e = .normal ∧ Φ σ w) σ w) (h2 : ∀ σ w, Φ σ w → Q .normal σ w) : swp P n x Q σ w :=
  swp_mono h1 fun e σ w h => by obtain ⟨rfl, h⟩ := h; exact h2 _ _ h
end PEv
open Sx
theorem fl_one'' {α : Type} {enc : α → List Value} (h : ∀ a, (enc a).all Value.oneCell' = true) : ∀ L : List α, (fl enc L).all Value.oneCell' = true
  | [] => rfl
  | x :: L => by rw [fl_cons, List.all_append, h x, fl_one'' h L]; rfl
theorem nm_one'' (x : Nm) : x.cells.all Value.oneCell' = true := rfl
end Go.Proofs.Ytpnigekkbmanlaa
