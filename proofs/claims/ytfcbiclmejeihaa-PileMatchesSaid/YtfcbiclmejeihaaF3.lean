/- A pointer against nil; a list pushed whole. Conditions: fewer than 2^61 things; room. -/
import Derived.Test.YtfcbiclmejeihaaHq
import Derived.Test.YtfcbiclmejeihaaPEvg
import Derived.Test.YtfcbiclmejeihaaLEv
import Derived.Laws.Pointers
namespace Go.Proofs.Ytfcbiclmejeihaa
open Sx Hp
section
variable {dr : Bool} {P : Program} {ops : Array Oper} {W : List Nat} {Q : Fr → World → Prop} {k : Nat} {rest : List Oper} {σ : Fr} {C : World → Prop} {d : Nat} {ty : TypeId} {pos : String} {after : Array Edge} {guard : Option (Nat × Bool)}
theorem x_eqlP {t t' e : TypeId} {ad : Addr} {x y : Operand} (hu : P.underlying t = some (.pointer e)) (hw : wantS ops σ ⟨some d, .binOp .eql t x y t', ty, pos, after, guard⟩ = true) (hx : ev σ x = .pointer (some ad)) (hy : ev σ y = .pointer none)
    (h : xw dr P ops W Q (k + 1) rest (upd σ d (.bool false)) C) : xw dr P ops W Q k (⟨some d, .binOp .eql t x y t', ty, pos, after, guard⟩ :: rest) σ C :=
  x_p hw rfl (fun w => by
    have e3 : eqGuard .eql t x y (.pointer (some ad)) (.pointer none) = pure () := rfl
    have hp : P.underlying t = some (.pointer (P.pointee t)) := by simp [Program.pointee, hu]
    simp only [execOp, hx, hy, e3, Sem.run_bind, Sem.run_pure, Result.andThen_ok, run_eql_pointer_nil w t (some ad) hp]
    rfl) h
end
theorem nthE {α : Type} {L : List α} {i : Nat} (h : i < L.length) : ∃ x, L[i]? = some x := ⟨_, List.getElem?_eq_getElem h⟩
theorem take_succ' {α : Type} {l : List α} {i : Nat} {x : α} (h : l[i]? = some x) : l.take (i + 1) = l.take i ++ [x] := by rw [List.take_add_one, h]; rfl
theorem drop_cons' {α : Type} {l : List α} {i : Nat} {x : α} (h : l[i]? = some x) : l.drop i = x :: l.drop (i + 1) := by
  obtain ⟨hi, rfl⟩ := List.getElem?_eq_some_iff.1 h
  exact List.drop_eq_getElem_cons hi
theorem foldl_take_succ {α β : Type} {f : β → α → β} {b : β} {l : List α} {i : Nat} {x : α} (h : l[i]? = some x) : (l.take (i + 1)).foldl f b = f ((l.take i).foldl f b) x := by
  rw [take_succ' h, List.foldl_append]; rfl
theorem len_foldl_put {α : Type} (lt : α → α → Bool) : ∀ (l acc : List α), (l.foldl (put lt) acc).length = acc.length + l.length
  | [], _ => rfl
  | x :: l, acc => by rw [List.foldl_cons, len_foldl_put lt l, put_length, List.length_cons]; omega
end Go.Proofs.Ytfcbiclmejeihaa
