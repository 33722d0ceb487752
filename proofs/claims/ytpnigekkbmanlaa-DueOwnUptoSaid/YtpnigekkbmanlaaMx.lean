/- Maps: look-ups, entries, deletions, keys that are structs. No conditions. -/
import Derived.Test.YtpnigekkbmanlaaApib
import Derived.MapKept
namespace Go.Proofs.Ytpnigekkbmanlaa
open Sx

namespace Sx
theorem modify_last {β : Type} (f : β → β) (e : β) : ∀ A : List β, (A ++ [e]).modify A.length f = A ++ [f e]
  | [] => rfl
  | a :: A => by
    show a :: (A ++ [e]).modify A.length f = _
    rw [modify_last f e A]
    rfl
theorem map_eraseIdx' {β γ : Type} (f : β → γ) : ∀ (A : List β) (i : Nat), (A.eraseIdx i).map f = (A.map f).eraseIdx i
  | [], _ => rfl
  | _ :: _, 0 => rfl
  | a :: A, i + 1 => by
    show f a :: (A.eraseIdx i).map f = _
    rw [map_eraseIdx' f A i]
    rfl
section
variable {α : Type}
/-- A map's entries: the key, what lies there, when it was born. -/
def entries (enc : α → List Value) (L : List (α × Value × Nat)) : List MapEntry := L.map fun x => ⟨.agg (enc x.1).toArray, x.2.1, x.2.2⟩
/-- The map at r. -/
def Mp (w : World) (r : Nat) (enc : α → List Value) (L : List (α × Value × Nat)) (clock : Nat) : Prop := w.heap[r]? = some (.map (entries enc L).toArray clock)
variable {P : Program} {w w' : World} {r clock : Nat} {enc : α → List Value} {L : List (α × Value × Nat)}
theorem Mp.lt (h : Mp w r enc L clock) : r < w.heap.size := blt h
theorem Mp.get {F : Nat → Prop} (h : Mp w r enc L clock) (u : Upd F w w') (hn : ¬F r) : Mp w' r enc L clock := Upd.get u h hn
theorem Mp.at (h : Mp w r enc L clock) (u : Ext w w') : Mp w' r enc L clock := Upd.at u h
theorem Mp.run (h : Mp w r enc L clock) : (getObj r).run P w = .ok (.map (entries enc L).toArray clock) w := by
  have h' : w.heap[r]? = some (.map (entries enc L).toArray clock) := h
  simp [getObj, Sem.run, h']
/-- What setObj leaves. -/
theorem Mp.set (h : Mp w r enc L clock) {L' : List (α × Value × Nat)} {c' : Nat} {es' : Array MapEntry} (he : es' = (entries enc L').toArray) :
    ∃ w', (setObj r (.map es' c')).run P w = .ok () w' ∧ Upd (fun b => b = r) w w' ∧ Mp w' r enc L' c' := by
  subst he
  have h' : w.heap[r]? = some (.map (entries enc L).toArray clock) := h
  have hlt : r < w.heap.size := (Array.getElem?_eq_some_iff.1 h').1
  have hs : (w.heap.setIfInBounds r (.map (entries enc L').toArray c'))[r]? = some (.map (entries enc L').toArray c') ∧ ∀ r', r' ≠ r → (w.heap.setIfInBounds r (.map (entries enc L').toArray c'))[r']? = w.heap[r']? := ⟨by simp [hlt], fun r' hne => by simp [Ne.symm hne]⟩
  exact ⟨{ w with heap := w.heap.setIfInBounds r (.map (entries enc L').toArray c') }, by simp [setObj, Sem.run, h'], ⟨rfl, rfl, rfl, by simp, fun b _ hn => hs.2 b hn⟩, hs.1⟩
/-- Where the key stands, and what lies there. -/
def lookAt [DecidableEq α] (k : α) : List (α × Value × Nat) → Nat → Option (Nat × Value)
  | [], _ => none
  | x :: L, i => if k = x.1 then some (i, x.2.1) else lookAt k L (i + 1)
/-- What a map type's keys must be. -/
structure KeyTy [DecidableEq α] (P : Program) (kt : TypeId) (enc : α → List Value) : Prop where
  chk : ∀ (b : Bool) (x : α) (w : World), (Instr.checkKey b 10000 kt (.agg (enc x).toArray)).run P w = .ok () w
  und : (P.underlying kt).isSome = true
  eqt : EqTy P kt enc
theorem find_now {d : TypeDesc} {a : Array Value} (x : α × Value × Nat) (L : List (α × Value × Nat)) : Instr.findNow d (.agg a) (entries enc (x :: L)) 0 = none := by
  simp only [entries, List.map_cons, Instr.findNow]
  have : Instr.sameNow d (.agg a) (.agg (enc x.1).toArray) = none := by cases d <;> rfl
  rw [this]
variable {kt : TypeId}
theorem run_ask [DecidableEq α] (hK : KeyTy P kt enc) (k : α) (w : World) : ∀ (L : List (α × Value × Nat)) (i : Nat), (Instr.findAsking kt (.agg (enc k).toArray) (entries enc L) i).run P w = .ok (lookAt k L i) w
  | [], i => rfl
  | x :: L, i => by
    simp only [entries, List.map_cons, Instr.findAsking, Sem.run_bind]
    have e : (Op.equal kt (.agg (enc k).toArray) (.agg (enc x.1).toArray)).run P w = .ok (decide (k = x.1)) w := hK.eqt.eq k x.1 w
    rw [e, Result.andThen_ok]
    by_cases hk : k = x.1
    · simp [hk, lookAt]
    · simp only [hk, decide_false, lookAt, if_false]
      exact run_ask hK k w L (i + 1)
theorem run_find [DecidableEq α] (hK : KeyTy P kt enc) (k : α) (w : World) (L : List (α × Value × Nat)) : (Instr.findKey kt (.agg (enc k).toArray) (entries enc L)).run P w = .ok (lookAt k L 0) w := by
  obtain ⟨d, hd⟩ := Option.isSome_iff_exists.1 hK.und
  unfold Instr.findKey
  rw [Sem.run_bind, run_underlying hd, Result.andThen_ok]
  cases L with
  | nil => rfl
  | cons x L =>
    rw [find_now]
    exact run_ask hK k w (x :: L) 0
end

section
variable {dr : Bool} {P : Program} {ops : Array Oper} {W : List Nat} {Q : Fr → World → Prop} {k : Nat} {rest : List Oper} {σ : Fr} {C : World → Prop} {w : World}
variable {d : Nat} {dst : Option Nat} {ty : TypeId} {pos : String} {after : Array Edge} {guard : Option (Nat × Bool)}
/-- A new map. -/
theorem w_map {α : Type} {t : TypeId} (enc : α → List Value) (hW : isW dr W k (.makeMap t none) = true) (hw : wantS ops σ ⟨some d, .makeMap t none, ty, pos, after, guard⟩ = true)
    (h : ∀ r w', r = w.heap.size → Ext w w' → Mp w' r enc [] 0 → xw dr P ops W Q (k + 1) rest (upd σ d (.map (some r))) (Eq w')) : xw dr P ops W Q k (⟨some d, .makeMap t none, ty, pos, after, guard⟩ :: rest) σ (Eq w) := by
  refine x_w hw rfl hW ?_
  unfold stepsTo
  simp only [execOp, Instr.makeMap, newObj, Option.map]
  exact h w.heap.size (w.alloc (.map #[] 0)) rfl (ext_alloc _ _) (heap_alloc_new w _)
theorem steps_look {α : Type} [DecidableEq α] {enc : α → List Value} {kt e t : TypeId} {z : Value} {r clock : Nat} {L : List (α × Value × Nat)} {key : α} {x y : Operand} {R : Value → World → Prop} (hu : P.underlying t = some (.map kt e)) (hK : KeyTy P kt enc) (hz : ∀ w, (zeroValue e).run P w = .ok z w)
    (hx : ev σ x = .map (some r)) (hy : ev σ y = .agg (enc key).toArray) (hm : Mp w r enc L clock) (h : R (((lookAt key L 0).map (·.2)).getD z) w) :
    stepsTo P ⟨some d, .lookup t x y false, ty, pos, after, guard⟩ (ev σ) w R := by
  unfold stepsTo
  have e1 : (Instr.lookup t (.map (some r)) (.agg (enc key).toArray) false).run P w = .ok (((lookAt key L 0).map (·.2)).getD z) w := by
    have hg : (getObj r).run P w = .ok (.map (entries enc L).toArray clock) w := hm.run
    unfold Instr.lookup
    simp only [Sem.run_bind, run_underlying hu, Result.andThen_ok, hg, Sem.run_pure, hK.chk, run_find hK]
    cases lookAt key L 0 with
    | none => simp [hz]
    | some v => simp
  simp only [execOp, hx, hy, Sem.run_bind, e1, Result.andThen_ok, Sem.run_pure]
  exact h
theorem w_look {α : Type} [DecidableEq α] {enc : α → List Value} {kt e t : TypeId} (z : Value) {r clock : Nat} {L : List (α × Value × Nat)} {key : α} {x y : Operand} (hw : wantS ops σ ⟨some d, .lookup t x y false, ty, pos, after, guard⟩ = true) (hW : (isW dr W k (.lookup t x y false)) = true) (hu : P.underlying t = some (.map kt e)) (hK : KeyTy P kt enc) (hz : ∀ w, (zeroValue e).run P w = .ok z w)
    (hx : ev σ x = .map (some r)) (hy : ev σ y = .agg (enc key).toArray) (hm : Mp w r enc L clock) (h : xw dr P ops W Q (k + 1) rest (upd σ d (((lookAt key L 0).map (·.2)).getD z)) (Eq w)) :
    xw dr P ops W Q k (⟨some d, .lookup t x y false, ty, pos, after, guard⟩ :: rest) σ (Eq w) :=
  x_w hw rfl hW (steps_look hu hK hz hx hy hm h)
theorem q_look {α : Type} [DecidableEq α] {enc : α → List Value} {kt e t : TypeId} (z : Value) {r clock : Nat} {L : List (α × Value × Nat)} {key : α} {x y : Operand} (hW : (isW dr W k (.lookup t x y false) || isF dr W k (.lookup t x y false)) = false) (hw : wantS ops σ ⟨some d, .lookup t x y false, ty, pos, after, guard⟩ = true) (hu : P.underlying t = some (.map kt e)) (hK : KeyTy P kt enc) (hz : ∀ w, (zeroValue e).run P w = .ok z w)
    (hx : ev σ x = .map (some r)) (hy : ev σ y = .agg (enc key).toArray) (hm : ∀ w, C w → Mp w r enc L clock) (h : xw dr P ops W Q (k + 1) rest (upd σ d (((lookAt key L 0).map (·.2)).getD z)) C) :
    xw dr P ops W Q k (⟨some d, .lookup t x y false, ty, pos, after, guard⟩ :: rest) σ C :=
  x_q hw rfl hW (fun w' e => steps_look hu hK hz hx hy (hm w' e) ⟨rfl, e, fun _ => rfl⟩) h
/-- An entry is made ready for a key that is not there. -/
theorem w_entryN {α : Type} [DecidableEq α] {enc : α → List Value} {kt e t : TypeId} (z : Value) {r clock : Nat} {L : List (α × Value × Nat)} {key : α} {x y : Operand} (hw : wantS ops σ ⟨some d, .mapEntry t x y, ty, pos, after, guard⟩ = true) (hW : (isW dr W k (.mapEntry t x y)) = true) (hu : P.underlying t = some (.map kt e)) (hK : KeyTy P kt enc) (hz : ∀ w, (zeroValue e).run P w = .ok z w)
    (hx : ev σ x = .map (some r)) (hy : ev σ y = .agg (enc key).toArray) (hm : Mp w r enc L clock) (hn : lookAt key L 0 = none) (h : ∀ w', Upd (fun b => b = r) w w' → Mp w' r enc (L ++ [(key, z, clock)]) (clock + 1) → xw dr P ops W Q (k + 1) rest (upd σ d (.tuple #[z, goInt clock])) (Eq w')) :
    xw dr P ops W Q k (⟨some d, .mapEntry t x y, ty, pos, after, guard⟩ :: rest) σ (Eq w) := by
  refine x_w hw rfl hW ?_
  unfold stepsTo
  obtain ⟨w', hset, u, hm'⟩ := hm.set (P := P) (c' := clock + 1) (L' := L ++ [(key, z, clock)]) (es' := (entries enc L).toArray.push { key := .agg (enc key).toArray, val := z, born := clock }) (by simp [entries])
  have e1 : (Instr.mapEntry t (.map (some r)) (.agg (enc key).toArray)).run P w = .ok (.tuple #[z, goInt clock]) w' := by
    unfold Instr.mapEntry
    simp only [Sem.run_bind, run_underlying hu, Result.andThen_ok, hm.run, Sem.run_pure, hK.chk, run_find hK, hn, hz, hset]
  simp only [execOp, hx, hy, Sem.run_bind, e1, Result.andThen_ok, Sem.run_pure]
  exact h w' u hm'
/-- What was made ready last is given its value. -/
theorem w_stored {α : Type} {enc : α → List Value} {t : TypeId} {z v : Value} {r clock c : Nat} {L : List (α × Value × Nat)} {key : α} {x y s : Operand} (hw : wantS ops σ ⟨dst, .entryStore t x s y, ty, pos, after, guard⟩ = true) (hW : (isW dr W k (.entryStore t x s y)) = true)
    (hx : ev σ x = .map (some r)) (hs : ev σ s = goInt clock) (hy : ev σ y = v) (hm : Mp w r enc (L ++ [(key, z, clock)]) c) (hb : ∀ a ∈ L, a.2.2 ≠ clock) (h : ∀ w', Upd (fun b => b = r) w w' → Mp w' r enc (L ++ [(key, v, clock)]) c → xw dr P ops W Q (k + 1) rest (putS σ dst undef) (Eq w')) :
    xw dr P ops W Q k (⟨dst, .entryStore t x s y, ty, pos, after, guard⟩ :: rest) σ (Eq w) := by
  refine x_w hw rfl hW ?_
  unfold stepsTo
  have hi : (entries enc (L ++ [(key, z, clock)])).toArray.findIdx? (fun e => (e.born : Int) == (clock : Int)) = some L.length := by
    simp only [entries, List.findIdx?_toArray, List.map_append, List.map_cons, List.map_nil]
    rw [List.findIdx?_append]
    have h1 : (L.map fun x => (⟨.agg (enc x.1).toArray, x.2.1, x.2.2⟩ : MapEntry)).findIdx? (fun e => (e.born : Int) == (clock : Int)) = none := by
      rw [List.findIdx?_eq_none_iff]
      intro e he
      obtain ⟨a, ha, rfl⟩ := List.mem_map.1 he
      have := hb a ha
      simp
      omega
    rw [h1]
    simp
  obtain ⟨w', hset, u, hm'⟩ := hm.set (P := P) (c' := c) (L' := L ++ [(key, v, clock)]) (es' := (entries enc (L ++ [(key, z, clock)])).toArray.modify L.length fun e => { e with val := v }) (by
    apply Array.ext'
    simp only [entries, Array.toList_modify, List.map_append, List.map_cons, List.map_nil]
    have := modify_last (fun e : MapEntry => { e with val := v }) ⟨.agg (enc key).toArray, z, clock⟩ (L.map fun x => (⟨.agg (enc x.1).toArray, x.2.1, x.2.2⟩ : MapEntry))
    rw [List.length_map] at this
    exact this)
  have e1 : (Instr.entryStore t (.map (some r)) (goInt clock) v).run P w = .ok () w' := by
    unfold Instr.entryStore
    have e2 : (asInt (goInt (clock : Int))).run P w = .ok (clock : Int) w := rfl
    simp only [Sem.run_bind, Result.andThen_ok, hm.run, e2, hi, hset]
  simp only [execOp, hx, hy, hs, Sem.run_bind, e1, Result.andThen_ok, Sem.run_pure]
  exact h w' u hm'
/-- A key is taken out. -/
theorem w_delete {α : Type} [DecidableEq α] {enc : α → List Value} {kt e t t2 : TypeId} {r clock : Nat} {L : List (α × Value × Nat)} {key : α} {x y : Operand} (hw : wantS ops σ ⟨dst, .call ⟨.builtin .delete, #[x, y], #[t, t2]⟩, ty, pos, after, guard⟩ = true) (hW : (isW dr W k (.call ⟨.builtin .delete, #[x, y], #[t, t2]⟩)) = true) (hu : P.underlying t = some (.map kt e)) (hK : KeyTy P kt enc)
    (hx : ev σ x = .map (some r)) (hy : ev σ y = .agg (enc key).toArray) (hm : Mp w r enc L clock) (h : ∀ w', Upd (fun b => b = r) w w' → Mp w' r enc (L.eraseIdx (((lookAt key L 0).map (·.1)).getD L.length)) clock → xw dr P ops W Q (k + 1) rest (putS σ dst (.tuple #[])) (Eq w')) :
    xw dr P ops W Q k (⟨dst, .call ⟨.builtin .delete, #[x, y], #[t, t2]⟩, ty, pos, after, guard⟩ :: rest) σ (Eq w) := by
  refine x_w hw rfl hW ?_
  unfold stepsTo
  obtain ⟨w', hset, u, hm'⟩ := hm.set (P := P) (c' := clock) (L' := L.eraseIdx (((lookAt key L 0).map (·.1)).getD L.length)) (es' := (match lookAt key L 0 with | some (i, _) => (entries enc L).toArray.eraseIdxIfInBounds i | none => (entries enc L).toArray)) (by
    cases hl : lookAt key L 0 with
    | none => simp [entries, List.eraseIdx_of_length_le]
    | some v => simp [entries, map_eraseIdx'])
  have e1 : (Builtin.delete_ #[t, t2] ty #[.map (some r), .agg (enc key).toArray]).run P w = .ok (.tuple #[]) w' := by
    unfold Builtin.delete_
    simp only [Sem.run_bind, run_underlying hu, Result.andThen_ok, hm.run, hK.chk, run_find hK, List.getElem?_toArray, List.getElem?_cons_zero, List.getElem?_cons_succ]
    cases hl : lookAt key L 0 with
    | none => rw [hl] at hset; simp only at hset ⊢; rw [Sem.run_bind, hset]; rfl
    | some v => rw [hl] at hset; simp only at hset ⊢; rw [Sem.run_bind, hset]; rfl
  simp only [execOp, resolve, invoke, builtin, Sem.run_bind, Sem.run_pure, Result.andThen_ok, List.map_toArray, List.map_cons, List.map_nil, hx, hy, e1]
  exact h w' u hm'
end
end Sx
end Go.Proofs.Ytpnigekkbmanlaa
