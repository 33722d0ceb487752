/- A pile of Wt: Sorted, Sort, Peek. Conditions: fewer than 2^60 things; room for what grows. -/
import Derived.Test.YtpnigekkbmanlaaPWtd
namespace Go.Proofs.Ytpnigekkbmanlaa.PWt
open Sx Hp

/-- what Sorted and Sort answer -/
def Fresh (w w' : World) (v : Value) (S : List Wt) : Prop := Own w' 82 5 v S.length (fl Wt.cells S) ∧ (∀ b, isIn v b → w.heap.size ≤ b) ∧ Ext w w'

theorem ext_of {F : Nat → Prop} {w w' : World} (u : Upd F w w') (h : ∀ b, F b → w.heap.size ≤ b) : Ext w w' := (Upd.refl _ w).trans' u (fun b hb hf => by have := h b hf; omega)

theorem foldl_put_length' (lt : Wt → Wt → Bool) : ∀ (l acc : List Wt), (l.foldl (put lt) acc).length = acc.length + l.length
  | [], acc => rfl
  | x :: l, acc => by rw [List.foldl_cons, foldl_put_length' lt l, put_length, List.length_cons]; omega
theorem foldl_put_length (l : List Wt) : (l.foldl (put wlt) []).length = l.length := by rw [foldl_put_length']; simp

end Go.Proofs.Ytpnigekkbmanlaa.PWt
