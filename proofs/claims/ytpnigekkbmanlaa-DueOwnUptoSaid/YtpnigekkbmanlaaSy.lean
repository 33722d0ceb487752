/- More operations: closures, slices cut on both sides, append in place, clear, a map's entry that is there. No conditions. -/
import Derived.Test.YtpnigekkbmanlaaMx
import Derived.Test.YtpnigekkbmanlaaCn
namespace Go.Proofs.Ytpnigekkbmanlaa
open Sx
section
variable {dr : Bool} {P : Program} {ops : Array Oper} {W : List Nat} {Q : Fr → World → Prop} {k : Nat} {rest : List Oper} {σ : Fr} {C : World → Prop} {w : World}
variable {d : Nat} {dst : Option Nat} {ty : TypeId} {pos : String} {after : Array Edge} {guard : Option (Nat × Bool)} {op : Op} {o : Oper} {v : Value}
theorem x_mkfunc {f : Fn} {x : Operand} (hw : wantS ops σ ⟨some d, .makeFunc f #[] #[x], ty, pos, after, guard⟩ = true) (hx : ev σ x = v) (h : xw dr P ops W Q (k + 1) rest (upd σ d (.func f #[] #[v])) C) : xw dr P ops W Q k (⟨some d, .makeFunc f #[] #[x], ty, pos, after, guard⟩ :: rest) σ C :=
  x_p (v := .func f #[] #[v]) hw rfl (fun _ => by subst hx; simp [execOp, Instr.makeFunc]) h
/-- a function value with what it holds is called -/
theorem steps_callV {f : FuncId} {c : Call} {x : Operand} {vs caps : List Value} {R : Value → World → Prop} {K : Value → World → Prop} (hc : c.callee = .value x) (hx : ev σ x = .func (.func f) #[] caps.toArray) (hvs : c.args.toList.map (ev σ) = vs) (hf : Gets P f (vs ++ caps) w R) (h : ∀ v w', R v w' → K v w') :
    stepsTo P ⟨dst, .call c, ty, pos, after, guard⟩ (ev σ) w K := by
  have e : c.args.map (ev σ) = vs.toArray := by rw [← hvs]; cases c.args; simp
  unfold stepsTo
  simp only [execOp, resolve, hc, e, hx]
  have h2 := run_goFn hf.1 (vs ++ caps).toArray w
  have h3 := hf.2
  simp [Deferred.ofValue, invoke, h2]
  exact h3.mono fun _ _ ⟨v, he, hv⟩ => ⟨v, he, h _ _ hv⟩
theorem w_callV {f : FuncId} {args : Array Operand} {ats : Array TypeId} {x : Operand} {vs caps : List Value} {R : Value → World → Prop} (hW : isW dr W k (.call ⟨.value x, args, ats⟩) = true) (hw : wantS ops σ ⟨some d, .call ⟨.value x, args, ats⟩, ty, pos, after, guard⟩ = true) (hp : pureB (.call ⟨.value x, args, ats⟩) = false)
    (hx : ev σ x = .func (.func f) #[] caps.toArray) (hvs : args.toList.map (ev σ) = vs) (hf : Gets P f (vs ++ caps) w R) (h : ∀ v w', R v w' → xw dr P ops W Q (k + 1) rest (upd σ d v) (Eq w')) : xw dr P ops W Q k (⟨some d, .call ⟨.value x, args, ats⟩, ty, pos, after, guard⟩ :: rest) σ (Eq w) :=
  x_w hw hp hW (steps_callV rfl hx hvs hf h)
/-- s[lo:hi:max] -/
theorem x_slice3 {t n c : Nat} (l h' m : Nat) {k1 k2 k3 : IntKind} {i1 i2 i3 : Int} {a : Option Addr} {x y1 y2 y3 : Operand} (hw : wantS ops σ ⟨some d, .slice t x (some y1) (some y2) (some y3), ty, pos, after, guard⟩ = true) (hx : ev σ x = .slice a n c) (h1 : ev σ y1 = .int k1 i1) (h2 : ev σ y2 = .int k2 i2) (h3 : ev σ y3 = .int k3 i3)
    (hs : (elemSz P t).isSome = true) (e1 : i1 = (l : Nat)) (e2 : i2 = (h' : Nat)) (e3 : i3 = (m : Nat)) (hl : l ≤ h') (hh : h' ≤ m) (hm : m ≤ c) (h : ∀ v, xw dr P ops W Q (k + 1) rest (upd σ d v) C) : xw dr P ops W Q k (⟨some d, .slice t x (some y1) (some y2) (some y3), ty, pos, after, guard⟩ :: rest) σ C := by
  obtain ⟨s, hs⟩ := Option.isSome_iff_exists.1 hs
  obtain ⟨e, hu, he⟩ := elemSz_parts hs
  subst e1; subst e2; subst e3
  refine x_p (v := .slice (if m = l then a else a.map (·.add (l * s))) (h' - l) (m - l)) hw rfl (fun w => ?_) (h _)
  simp [execOp, Instr.sliceAt, run_underlying hu, Instr.slice, hx, h1, h2, h3, Instr.sliceBounds, Instr.sliceBound, asIntOf, hl, hh, hm, run_szT he]
/-- s[lo:hi] -/
theorem x_cutBoth {t n c s : Nat} (l h' : Nat) {k1 k2 : IntKind} {i1 i2 : Int} {a : Option Addr} {x y1 y2 : Operand} (hw : wantS ops σ ⟨some d, .slice t x (some y1) (some y2) none, ty, pos, after, guard⟩ = true) (hx : ev σ x = .slice a n c) (h1 : ev σ y1 = .int k1 i1) (h2 : ev σ y2 = .int k2 i2)
    (hs : elemSz P t = some s) (e1 : i1 = (l : Nat)) (e2 : i2 = (h' : Nat)) (hl : l ≤ h') (hh : h' ≤ c) (h : xw dr P ops W Q (k + 1) rest (upd σ d (.slice (if c = l then a else a.map (·.add (l * s))) (h' - l) (c - l))) C) : xw dr P ops W Q k (⟨some d, .slice t x (some y1) (some y2) none, ty, pos, after, guard⟩ :: rest) σ C := by
  obtain ⟨e, hu, he⟩ := elemSz_parts hs
  subst e1; subst e2
  refine x_p (v := .slice (if c = l then a else a.map (·.add (l * s))) (h' - l) (c - l)) hw rfl (fun w => ?_) h
  simp [execOp, Instr.sliceAt, run_underlying hu, Instr.slice, hx, h1, h2, Instr.sliceBounds, Instr.sliceBound, asIntOf, hl, hh, run_szT he]
/-- append where there is room: in place -/
theorem w_appendIn {t e sz bytes : Nat} {x y : Operand} {g n cap m c : Nat} {a : Option Addr} {cs news : List Value} (hW : isW dr W k (.call ⟨.builtin .append, #[x, y], #[t, t]⟩) = true) (hw : wantS ops σ ⟨some d, .call ⟨.builtin .append, #[x, y], #[t, t]⟩, ty, pos, after, guard⟩ = true)
    (hx : ev σ x = .slice (some ⟨g, 0, none⟩) n cap) (hy : ev σ y = .slice a m c) (ht : slT P t = some (e, sz, bytes)) (hb : Blk w g e cs) (hrd : Rd w sz (.slice a m c) m news) (h1 : news.all Value.oneCell' = true) (hroom : n + m ≤ cap) (hfit : n * sz + m * sz ≤ cs.length)
    (h : ∀ w', Blk w' g e (cs.take (n * sz) ++ news ++ cs.drop (n * sz + m * sz)) → Upd (fun b => b = g) w w' → xw dr P ops W Q (k + 1) rest (upd σ d (.slice (some ⟨g, 0, none⟩) (n + m) cap)) (Eq w')) : xw dr P ops W Q k (⟨some d, .call ⟨.builtin .append, #[x, y], #[t, t]⟩, ty, pos, after, guard⟩ :: rest) σ (Eq w) := by
  obtain ⟨hu, i, z, hi, hz, hsz, hzs, hby⟩ := slT_spec ht
  subst hsz
  refine x_w hw rfl hW ?_
  unfold stepsTo
  simp only [execOp, resolve, invoke, builtin, Sem.run_bind, Sem.run_pure, Result.andThen_ok, List.map_toArray, List.map_cons, List.map_nil, hx, hy]
  rcases Nat.eq_zero_or_pos m with h0 | h0
  · subst h0
    have hn : news = [] := List.eq_nil_of_length_eq_zero (by simpa using hrd.1)
    subst hn
    have hrun : (Builtin.append_ #[t, t] ty #[.slice (some ⟨g, 0, none⟩) n cap, .slice a 0 c]).run P w = .ok (.slice (some ⟨g, 0, none⟩) n cap) w := by
      have hnc : n ≤ cap := by omega
      cases a <;> simp [Builtin.append_, run_underlying hu, sizeOf, typeInfo, hi, Builtin.lenOf, Builtin.firstCells, loadCells, loadCellsFrom, hnc, storeCells]
    rw [hrun]
    exact h w (by simpa using hb) (Upd.refl _ _)
  · obtain ⟨b', o', c', he, _, hc⟩ := hrd.pos h0
    simp only [Value.slice.injEq] at he
    obtain ⟨rfl, _, rfl⟩ := he
    have hrun := run_append_room (P := P) w t ty e i hu hi g n cap cs.toArray hb ⟨b', o', none⟩ m c news hrd.1 (fun j u hu => by rw [Addr.add_lit]; exact hc j u hu) (List.all_eq_true.1 h1) hroom (by rw [hrd.1]; simpa using hfit)
    rw [hrun]
    refine h _ ?_ (upd_setRow w g _)
    have := blk_setRow (cs' := (cs.take (n * i.size) ++ news ++ cs.drop (n * i.size + m * i.size))) hb
    rw [hrd.1]
    simpa using this
/-- clear: zeros over a part of a block -/
theorem w_clear {t e sz bytes : Nat} {x : Operand} {g off m c : Nat} {t' : TypeId} {cs zs : List Value} (hW : isW dr W k (.call ⟨.builtin .clear, #[x], #[t]⟩) = true) (hw : wantS ops σ ⟨dst, .call ⟨.builtin .clear, #[x], #[t]⟩, ty, pos, after, guard⟩ = true)
    (hx : ev σ x = .slice (some ⟨g, off, none⟩) m c) (ht : slT P t = some (e, sz, bytes)) (hz : zeroT P e = some zs) (h0 : 0 < m) (hb : Blk w g t' cs) (h1 : zs.all Value.oneCell' = true) (hfit : off + m * sz ≤ cs.length)
    (h : ∀ w' cs', cs'.length = cs.length → (∀ j, j < off → cs'[j]? = cs[j]?) → (∀ j, off + m * sz ≤ j → cs'[j]? = cs[j]?) → Blk w' g t' cs' → Upd (fun b => b = g) w w' → xw dr P ops W Q (k + 1) rest (putS σ dst (.tuple #[])) (Eq w')) : xw dr P ops W Q k (⟨dst, .call ⟨.builtin .clear, #[x], #[t]⟩, ty, pos, after, guard⟩ :: rest) σ (Eq w) := by
  obtain ⟨hu, i, z, hi, hz1, hsz, hzs, hby⟩ := slT_spec ht
  obtain ⟨i', z', hi', hz', hzc⟩ := zeroT_spec hz
  rw [hi] at hi'
  injection hi' with hi'
  subst hi'
  rw [hz1] at hz'
  injection hz' with hz'
  subst hz'
  subst hsz
  have hzl : zs.length = i.size := by rw [← hzs, hzc]; simp
  obtain ⟨ns, hns⟩ : ∃ ns, ns = (Builtin.zeroCells z.cells m).toList := ⟨_, rfl⟩
  have hnl : ns.length = m * i.size := by rw [hns, Array.length_toList, size_zeroCells, hzs]
  have hone : ∀ u ∈ ns, u.oneCell' = true := fun u hu => by
    rw [hns] at hu
    simp only [Builtin.zeroCells, Array.toList_map, List.mem_map, Array.toList_range, List.mem_range] at hu
    obtain ⟨j, hj, rfl⟩ := hu
    have hlt : j % z.cells.size < z.cells.size := Nat.mod_lt _ (by
      rcases Nat.eq_zero_or_pos z.cells.size with h | h
      · rw [h] at hj; omega
      · exact h)
    rw [show (z.cells[j % z.cells.size]! : Value) = z.cells[j % z.cells.size]'hlt from getElem!_pos z.cells _ hlt]
    have hall : ∀ u ∈ z.cells.toList, u.oneCell' = true := by
      rw [show z.cells.toList = zs by rw [hzc]]
      exact List.all_eq_true.1 h1
    exact hall _ (Array.mem_toList_iff.2 (Array.getElem_mem _))
  have hst := run_storeCells_at P g off t' ns 0 cs.toArray w hb (by rw [hnl]; simpa using hfit) hone
  simp only [Nat.add_zero] at hst
  refine x_w hw rfl hW ?_
  unfold stepsTo
  obtain ⟨m', rfl⟩ : ∃ m', m = m' + 1 := ⟨m - 1, by omega⟩
  have hrun : (Builtin.clear_ #[t] ty #[.slice (some ⟨g, off, none⟩) (m' + 1) c]).run P w = .ok (.tuple #[]) (w.setRow g (cs.toArray.toList.take off ++ ns ++ cs.toArray.toList.drop (off + ns.length)).toArray) := by
    unfold Builtin.clear_
    simp [run_underlying hu, zeroValue, typeInfo, hi, hz1, ← hns, hst]
  simp only [execOp, resolve, invoke, builtin, Sem.run_bind, Sem.run_pure, Result.andThen_ok, List.map_toArray, List.map_cons, List.map_nil, hx, hrun]
  have hlen : (cs.take off).length = off := by rw [List.length_take]; omega
  refine h _ (cs.take off ++ ns ++ cs.drop (off + ns.length)) ?_ (fun j hj => ?_) (fun j hj => ?_) (by have := blk_setRow (cs' := cs.take off ++ ns ++ cs.drop (off + ns.length)) hb; simpa using this) (upd_setRow w g _)
  · rw [List.length_append, List.length_append, hlen, List.length_drop]; omega
  · rw [List.append_assoc, List.getElem?_append_left (by omega), List.getElem?_take, if_pos hj]
  · rw [List.getElem?_append_right (by rw [List.length_append, hlen]; omega), List.length_append, hlen, List.getElem?_drop]
    congr 1
    omega
end

section
variable {dr : Bool} {P : Program} {ops : Array Oper} {W : List Nat} {Q : Fr → World → Prop} {k : Nat} {rest : List Oper} {σ : Fr} {C : World → Prop} {w : World}
variable {d : Nat} {dst : Option Nat} {ty : TypeId} {pos : String} {after : Array Edge} {guard : Option (Nat × Bool)}
theorem look_mid {α : Type} [DecidableEq α] {key : α} {v : Value} {c : Nat} {B : List (α × Value × Nat)} : ∀ (A : List (α × Value × Nat)) (i : Nat), (∀ a ∈ A, key ≠ a.1) → lookAt key (A ++ (key, v, c) :: B) i = some (i + A.length, v)
  | [], i, _ => by simp [lookAt]
  | a :: A, i, h => by
    simp only [List.cons_append, lookAt]
    rw [if_neg (h a (by simp)), look_mid A (i + 1) fun b hb => h b (by simp [hb])]
    simp; omega
theorem look_none {α : Type} [DecidableEq α] {key : α} : ∀ (A : List (α × Value × Nat)) (i : Nat), (∀ a ∈ A, key ≠ a.1) → lookAt key A i = none
  | [], _, _ => rfl
  | a :: A, i, h => by
    simp only [lookAt]
    rw [if_neg (h a (by simp)), look_none A (i + 1) fun b hb => h b (by simp [hb])]
theorem modify_mid {β : Type} (f : β → β) (e : β) (B : List β) : ∀ A : List β, (A ++ e :: B).modify A.length f = A ++ f e :: B
  | [] => rfl
  | a :: A => by
    show a :: (A ++ e :: B).modify A.length f = _
    rw [modify_mid f e B A]
    rfl
theorem entries_mid {α : Type} (enc : α → List Value) (A B : List (α × Value × Nat)) (key : α) (v : Value) (c : Nat) (f : MapEntry → MapEntry) (x : α × Value × Nat) (hf : f ⟨.agg (enc key).toArray, v, c⟩ = ⟨.agg (enc x.1).toArray, x.2.1, x.2.2⟩) :
    (entries enc (A ++ (key, v, c) :: B)).toArray.modify A.length f = (entries enc (A ++ x :: B)).toArray := by
  apply Array.ext'
  have := modify_mid f ⟨.agg (enc key).toArray, v, c⟩ (entries enc B) (entries enc A)
  simp only [entries, List.length_map] at this
  simp only [entries, Array.toList_modify, List.map_append, List.map_cons]
  rw [this, hf]
/-- An entry that is there is made ready. -/
theorem w_entryE {α : Type} [DecidableEq α] {enc : α → List Value} {kt e t : TypeId} {r clock c : Nat} {A B : List (α × Value × Nat)} {key : α} {v : Value} {x y : Operand} (hw : wantS ops σ ⟨some d, .mapEntry t x y, ty, pos, after, guard⟩ = true) (hW : (isW dr W k (.mapEntry t x y)) = true) (hu : P.underlying t = some (.map kt e)) (hK : KeyTy P kt enc) (hsb : ∀ key : α, Instr.sameBits 10000 (.agg (enc key).toArray) (.agg (enc key).toArray) = true)
    (hx : ev σ x = .map (some r)) (hy : ev σ y = .agg (enc key).toArray) (hm : Mp w r enc (A ++ (key, v, c) :: B) clock) (hA : ∀ a ∈ A, key ≠ a.1) (h : ∀ w', Upd (fun b => b = r) w w' → Mp w' r enc (A ++ (key, v, c) :: B) clock → xw dr P ops W Q (k + 1) rest (upd σ d (.tuple #[v, goInt c])) (Eq w')) :
    xw dr P ops W Q k (⟨some d, .mapEntry t x y, ty, pos, after, guard⟩ :: rest) σ (Eq w) := by
  refine x_w hw rfl hW ?_
  unfold stepsTo
  obtain ⟨w', hset, u, hm'⟩ := hm.set (P := P) (c' := clock) (L' := A ++ (key, v, c) :: B) (es' := (entries enc (A ++ (key, v, c) :: B)).toArray.modify A.length fun e => { e with key := .agg (enc key).toArray }) (entries_mid enc A B key v c _ (key, v, c) rfl)
  have hl := look_mid (key := key) (v := v) (c := c) (B := B) A 0 hA
  rw [Nat.zero_add] at hl
  have he : (entries enc (A ++ (key, v, c) :: B)).toArray[A.length]? = some ⟨.agg (enc key).toArray, v, c⟩ := by simp [entries]
  have e1 : (Instr.mapEntry t (.map (some r)) (.agg (enc key).toArray)).run P w = .ok (.tuple #[v, goInt c]) w' := by
    unfold Instr.mapEntry
    simp only [Sem.run_bind, run_underlying hu, Result.andThen_ok, hm.run, Sem.run_pure, hK.chk, run_find hK, hl, he, Option.map_some, Option.getD_some, Instr.keyThatStays, hsb key, if_true, hset]
  simp only [execOp, hx, hy, Sem.run_bind, e1, Result.andThen_ok, Sem.run_pure]
  exact h w' u hm'
/-- What was made ready is given its value. -/
theorem w_storedE {α : Type} {enc : α → List Value} {t : TypeId} {z v : Value} {r clock c : Nat} {A B : List (α × Value × Nat)} {key : α} {x y s : Operand} (hw : wantS ops σ ⟨dst, .entryStore t x s y, ty, pos, after, guard⟩ = true) (hW : (isW dr W k (.entryStore t x s y)) = true)
    (hx : ev σ x = .map (some r)) (hs : ev σ s = goInt clock) (hy : ev σ y = v) (hm : Mp w r enc (A ++ (key, z, clock) :: B) c) (hb : ∀ a ∈ A, a.2.2 ≠ clock) (h : ∀ w', Upd (fun b => b = r) w w' → Mp w' r enc (A ++ (key, v, clock) :: B) c → xw dr P ops W Q (k + 1) rest (putS σ dst undef) (Eq w')) :
    xw dr P ops W Q k (⟨dst, .entryStore t x s y, ty, pos, after, guard⟩ :: rest) σ (Eq w) := by
  refine x_w hw rfl hW ?_
  unfold stepsTo
  have hi : (entries enc (A ++ (key, z, clock) :: B)).toArray.findIdx? (fun e => (e.born : Int) == (clock : Int)) = some A.length := by
    simp only [entries, List.findIdx?_toArray, List.map_append, List.map_cons]
    rw [List.findIdx?_append]
    have h1 : (A.map fun x => (⟨.agg (enc x.1).toArray, x.2.1, x.2.2⟩ : MapEntry)).findIdx? (fun e => (e.born : Int) == (clock : Int)) = none := by
      rw [List.findIdx?_eq_none_iff]
      intro e he
      obtain ⟨a, ha, rfl⟩ := List.mem_map.1 he
      have := hb a ha
      simp
      omega
    rw [h1]
    simp [List.findIdx?_cons]
  obtain ⟨w', hset, u, hm'⟩ := hm.set (P := P) (c' := c) (L' := A ++ (key, v, clock) :: B) (es' := (entries enc (A ++ (key, z, clock) :: B)).toArray.modify A.length fun e => { e with val := v }) (entries_mid enc A B key z clock _ (key, v, clock) rfl)
  have e1 : (Instr.entryStore t (.map (some r)) (goInt clock) v).run P w = .ok () w' := by
    unfold Instr.entryStore
    have e2 : (asInt (goInt (clock : Int))).run P w = .ok (clock : Int) w := rfl
    simp only [Sem.run_bind, Result.andThen_ok, hm.run, e2, hi, hset]
  simp only [execOp, hx, hy, hs, Sem.run_bind, e1, Result.andThen_ok, Sem.run_pure]
  exact h w' u hm'
/-- m[k] = v where k is there -/
theorem w_updateE {α : Type} [DecidableEq α] {enc : α → List Value} {kt e t : TypeId} {r clock c : Nat} {A B : List (α × Value × Nat)} {key : α} {z v : Value} {x y s : Operand} (hw : wantS ops σ ⟨dst, .mapUpdate t x y s, ty, pos, after, guard⟩ = true) (hW : (isW dr W k (.mapUpdate t x y s)) = true) (hu : P.underlying t = some (.map kt e)) (hK : KeyTy P kt enc) (hsb : ∀ key : α, Instr.sameBits 10000 (.agg (enc key).toArray) (.agg (enc key).toArray) = true)
    (hx : ev σ x = .map (some r)) (hy : ev σ y = .agg (enc key).toArray) (hs : ev σ s = v) (hm : Mp w r enc (A ++ (key, z, c) :: B) clock) (hA : ∀ a ∈ A, key ≠ a.1) (h : ∀ w', Upd (fun b => b = r) w w' → Mp w' r enc (A ++ (key, v, c) :: B) clock → xw dr P ops W Q (k + 1) rest (putS σ dst undef) (Eq w')) :
    xw dr P ops W Q k (⟨dst, .mapUpdate t x y s, ty, pos, after, guard⟩ :: rest) σ (Eq w) := by
  refine x_w hw rfl hW ?_
  unfold stepsTo
  obtain ⟨w', hset, u, hm'⟩ := hm.set (P := P) (c' := clock) (L' := A ++ (key, v, c) :: B) (es' := (entries enc (A ++ (key, z, c) :: B)).toArray.modify A.length fun e => { e with key := .agg (enc key).toArray, val := v }) (entries_mid enc A B key z c _ (key, v, c) rfl)
  have hl := look_mid (key := key) (v := z) (c := c) (B := B) A 0 hA
  rw [Nat.zero_add] at hl
  have he : (entries enc (A ++ (key, z, c) :: B)).toArray[A.length]? = some ⟨.agg (enc key).toArray, z, c⟩ := by simp [entries]
  have e1 : (Instr.mapUpdate t (.map (some r)) (.agg (enc key).toArray) v).run P w = .ok () w' := by
    unfold Instr.mapUpdate
    simp only [Sem.run_bind, run_underlying hu, Result.andThen_ok, hm.run, Sem.run_pure, hK.chk, run_find hK, hl, he, Option.map_some, Option.getD_some, Instr.keyThatStays, hsb key, if_true, hset]
  simp only [execOp, hx, hy, hs, Sem.run_bind, e1, Result.andThen_ok, Sem.run_pure]
  exact h w' u hm'
end
end Go.Proofs.Ytpnigekkbmanlaa
