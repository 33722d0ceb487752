/- A pile of Mt: drain, Sorted, Sort. Conditions: fewer than 2^60 things; room for what grows. -/
import Derived.Test.YtpnigekkbmanlaaPMtc
namespace Go.Proofs.Ytpnigekkbmanlaa.PMt
open Sx Hp

theorem tc_len (x : Mt) : x.cells.length = 4 := rfl
theorem tc_one (x : Mt) : x.cells.all Value.oneCell' = true := rfl
theorem fl_one' {α : Type} {enc : α → List Value} (h : ∀ a, (enc a).all Value.oneCell' = true) : ∀ L : List α, (fl enc L).all Value.oneCell' = true
  | [] => rfl
  | x :: L => by rw [fl_cons, List.all_append, h x, fl_one' h L]; rfl

/-- what Pop answers -/
def popV : List Mt → Value
  | [] => .tuple #[Mt.zero.v, .bool false]
  | x :: _ => .tuple #[x.v, .bool true]
theorem pop (ho : Ord mlt) {w : World} {bp : Nat} {sv : Value} {S : List Mt} {N : Nat} (hp : Pile w bp sv S N) (hl : S.length ≤ 2305843009213693951) (hV : ∀ y ∈ S, Apt (foot bp sv) w y) :
    Gets Try.prog 42 [.pointer (some ⟨bp, 0, none⟩)] w fun v w' => v = popV S ∧ ∃ sv', Pile w' bp sv' S.tail N ∧ Upd (foot bp sv) w w' ∧ ∀ b, isIn sv' b → isIn sv b := by
  cases S with
  | nil => exact (pop_nil hp).mono fun v w' h => ⟨h.1, sv, hp.at h.2, h.2.of _, fun b hb => hb⟩
  | cons x S => exact (pop_cons ho hp (by simp at hl; omega) hV).mono fun v w' h => h

end Go.Proofs.Ytpnigekkbmanlaa.PMt
