/- A pile of Ev: Sorted, Sort, Peek. Conditions: fewer than 2^60 things; room for what grows. -/
import Derived.Test.YtnhecopgecoloaaPEvd
namespace Go.Proofs.Ytnhecopgecoloaa.PEv
open Sx Hp

/-- what Sorted and Sort answer -/
def Fresh (w w' : World) (v : Value) (S : List Ev) : Prop := Own w' 30 11 v S.length (fl Ev.cells S) ∧ (∀ b, isIn v b → w.heap.size ≤ b) ∧ Ext w w'

theorem ext_of {F : Nat → Prop} {w w' : World} (u : Upd F w w') (h : ∀ b, F b → w.heap.size ≤ b) : Ext w w' := (Upd.refl _ w).trans' u (fun b hb hf => by have := h b hf; omega)

theorem foldl_put_length' (lt : Ev → Ev → Bool) : ∀ (l acc : List Ev), (l.foldl (put lt) acc).length = acc.length + l.length
  | [], acc => rfl
  | x :: l, acc => by rw [List.foldl_cons, foldl_put_length' lt l, put_length, List.length_cons]; omega
theorem foldl_put_length (l : List Ev) : (l.foldl (put elt) []).length = l.length := by rw [foldl_put_length']; simp

end Go.Proofs.Ytnhecopgecoloaa.PEv
