/- GateArrival's plain law: unlike events, pushed in any order. No conditions. -/
import Derived.Test.YtnhecopgecoloaaHa
namespace Go.Proofs.Ytnhecopgecoloaa
open Hp Sx

def okB (g : GS) (e : Ev) : Bool := rng e.ts && decide (g.mark < e.ts) && decide (e.nm ∉ g.S.map Ev.nm)
def Unl (L : List Ev) : Prop := L.Pairwise fun a b => a.nm ≠ b.nm
theorem Unl.perm {L L' : List Ev} (h : Unl L) (hp : L.Perm L') : Unl L' := List.Pairwise.perm h hp fun h => h.symm
theorem Unl.apart {L : List Ev} (h : Unl L) : Apart elt L := List.Pairwise.imp (fun h => nm_apart h) h
def stp (g : GS) (L : List Ev) : GS := { g with S := (L.filter (okB g)).foldl (put elt) g.S }
theorem stp_nil (g : GS) : stp g [] = g := rfl
theorem mem_stp {g : GS} {L : List Ev} {a : Ev} : a ∈ (stp g L).S ↔ a ∈ g.S ∨ (a ∈ L ∧ okB g a = true) := by
  show a ∈ (L.filter (okB g)).foldl (put elt) g.S ↔ _
  rw [(foldl_put_perm (lt := elt) _ g.S).mem_iff, List.mem_append, List.mem_filter]
theorem stp_len (g : GS) (L : List Ev) : (stp g L).S.length = g.S.length + (L.filter (okB g)).length := len_foldl_put elt _ _
theorem stp_code {g : GS} {L : List Ev} {x : Ev} (sh : g.shut = false) (hcap : g.cap = 4096) (hu : Unl (L ++ [x])) (hc : g.S.length + L.length < 4096) : (stp g L).pcode x = 0 ↔ okB g x = true := by
  have hnm : x.nm ∈ (stp g L).S.map Ev.nm ↔ x.nm ∈ g.S.map Ev.nm := by
    constructor
    · intro h
      obtain ⟨a, ha, he⟩ := List.mem_map.1 h
      rcases mem_stp.1 ha with ha | ⟨ha, _⟩
      · exact List.mem_map.2 ⟨a, ha, he⟩
      · exact absurd he ((List.pairwise_append.1 hu).2.2 a ha x (by simp))
    · intro h
      obtain ⟨a, ha, he⟩ := List.mem_map.1 h
      exact List.mem_map.2 ⟨a, mem_stp.2 (.inl ha), he⟩
  have hlen : ((stp g L).S.length : Int) ≠ (stp g L).cap := by
    have h1 := stp_len g L
    have h2 := List.length_filter_le (okB g) L
    have h3 : (stp g L).cap = 4096 := hcap
    omega
  constructor
  · intro h
    obtain ⟨h1, h2, h3, h4, h5⟩ := GS.pcode_ok h
    unfold okB
    rw [h2, decide_eq_true (show g.mark < x.ts from h3), decide_eq_true (show x.nm ∉ g.S.map Ev.nm from fun h => h4 (hnm.2 h))]
    rfl
  · intro h
    simp only [okB, Bool.and_eq_true, decide_eq_true_eq] at h
    exact pcode0 sh (rng_iff.1 h.1.1) h.1.2 (fun hm => h.2 (hnm.1 hm)) hlen
theorem stp_push {g : GS} {L : List Ev} {x : Ev} (sh : g.shut = false) (hcap : g.cap = 4096) (hu : Unl (L ++ [x])) (hc : g.S.length + L.length < 4096) : (stp g L).push x = stp g (L ++ [x]) := by
  have hcode := stp_code sh hcap hu hc
  unfold GS.push
  by_cases h : (stp g L).pcode x = 0
  · rw [if_pos h]
    simp only [stp, List.filter_append, List.foldl_append, List.filter_cons, hcode.1 h, if_true, List.filter_nil, List.foldl_cons, List.foldl_nil]
  · rw [if_neg h]
    have hx : okB g x = false := by cases hb : okB g x with | false => rfl | true => exact absurd (hcode.2 hb) h
    simp [stp, List.filter_append, hx]
theorem foldl_put_any' {α : Type} {lt : α → α → Bool} (ho : Ord lt) : ∀ {l l' : List α}, l.Perm l' → Apart lt l → ∀ z : List α, l.foldl (put lt) z = l'.foldl (put lt) z := by
  intro l l' hp
  induction hp with
  | nil => exact fun _ _ => rfl
  | cons x _ ih => exact fun h z => ih (List.pairwise_cons.1 h).2 _
  | swap x y l =>
    intro h z
    have h0 := (List.pairwise_cons.1 h).1 x (by simp)
    simp only [List.foldl_cons]
    rw [put_comm' ho h0]
  | trans p _ ih1 ih2 => exact fun h z => (ih1 h z).trans (ih2 (h.perm p) z)
theorem stp_perm {g : GS} {L L' : List Ev} (hp : L.Perm L') (hu : Unl L) : stp g L = stp g L' := by
  have h1 := hp.filter (okB g)
  have h2 : Unl (L.filter (okB g)) := List.Pairwise.filter (okB g) hu
  unfold stp
  rw [foldl_put_any' elt_ord h1 h2.apart g.S]
theorem unl_take {L : List Ev} (h : Unl L) (j : Nat) : Unl (L.take j) := List.Pairwise.sublist (List.take_sublist _ _) h
/-- a place that is marked: one fewer that is not -/
theorem unseen_mark {B : List Bool} {at_ : Nat} : ∀ {R : List Nat}, R.Nodup → at_ ∈ R → B[at_]? = some false → (R.filter fun i => decide (B[i]? = some false)).Perm (at_ :: R.filter fun i => decide ((B.set at_ true)[i]? = some false))
  | [], _, hm, _ => by cases hm
  | r :: R, hn, hm, hb => by
    obtain ⟨h1, h2⟩ := List.nodup_cons.1 hn
    have hlt : at_ < B.length := (List.getElem?_eq_some_iff.1 hb).1
    by_cases e : r = at_
    · subst e
      have e1 : (B.set r true)[r]? = some true := by rw [List.getElem?_set_self hlt]
      have e2 : R.filter (fun i => decide ((B.set r true)[i]? = some false)) = R.filter (fun i => decide (B[i]? = some false)) := by
        apply List.filter_congr
        intro i hi
        have hne : r ≠ i := fun e => h1 (e ▸ hi)
        rw [List.getElem?_set_ne hne]
      simp only [List.filter_cons, hb, e1, decide_true, if_true, Option.some.injEq, Bool.true_eq_false, decide_false, Bool.false_eq_true, if_false, e2]
      exact List.Perm.refl _
    · have hm' : at_ ∈ R := (List.mem_cons.1 hm).resolve_left fun h => e h.symm
      have ih := unseen_mark h2 hm' hb
      have e3 : (B.set at_ true)[r]? = B[r]? := List.getElem?_set_ne fun h => e h.symm
      simp only [List.filter_cons, e3]
      split
      · exact (List.Perm.cons r ih).trans (List.Perm.swap at_ r _)
      · exact ih
end Go.Proofs.Ytnhecopgecoloaa
