/- Slices of structs of slices that came in: as the walks read them, with how much they are. Conditions: what the reading says. -/
import Derived.Test.YtpnigekkbmanlaaRw
import Derived.Test.YtpnigekkbmanlaaDm
namespace Go.Proofs.Ytpnigekkbmanlaa
open Sx
open Go.ChangeShapes Go.WideShapes Go.ChangeAt Go.RowKit
section
variable {H : Type} {enc : TypeId × Value → H} {P : Program} {W : World} {base : Nat} {spare : Nat → Bool} {held : Bool} {fuel : Nat} {t : TypeId} {cs : List Value} {x : DataW H × List MemPlace}
theorem struct_fieldD {l : List (TypeId × Nat)} (ht : P.underlying t = some (.struct (P.fieldsOf t))) (hl : ((P.fieldsOf t).toList.map fun f => (f.type, f.offset)) = l) (h : DataW.trod enc P W base spare held fuel t cs = some x) :
    ∃ n parts, cs.length = P.cellsOf t ∧ x.1 = .agg parts ∧ parts.length = l.length ∧ ∀ (i : Nat) (ty : TypeId) (off : Nat), l[i]? = some (ty, off) → ∃ y, DataW.trod enc P W base spare held n ty ((cs.drop off).take (P.cellsOf ty)) = some y ∧ parts[i]? = some y.1 := by
  obtain ⟨xs, n, _, hx, hlen, hxs, hf⟩ := DataW.trod_struct ht h
  refine ⟨n, xs.map (·.1), hlen, by rw [hx], by rw [← hl]; simp [hxs], fun i ty off hi => ?_⟩
  rw [← hl, List.getElem?_map, Option.map_eq_some_iff] at hi
  obtain ⟨f, hf1, hf2⟩ := hi
  simp only [Prod.mk.injEq] at hf2
  obtain ⟨rfl, rfl⟩ := hf2
  have hf1' : (P.fieldsOf t)[i]? = some f := by simpa using hf1
  have := hf i f hf1'
  have hi' : i < xs.length := by rw [hxs]; exact (Array.getElem?_eq_some_iff.1 hf1').1
  exact ⟨_, this.trans (List.getElem?_eq_getElem hi'), by rw [List.getElem?_map, List.getElem?_eq_getElem hi']; rfl⟩
theorem rd_ofL {α : Type} {en : α → List Value} {k : Nat} (hk : ∀ a, (en a).length = k) (hk0 : 0 < k) {a : Addr} {cap : Nat} {xs : List α} (h2 : ∀ (i : Nat) (e : α), xs[i]? = some e → W.cells? base (a.add (i * k)) k = some (en e)) :
    Rd W k (.slice (some a) xs.length cap) xs.length (fl en xs) := by
  have hcell : ∀ (i j : Nat) (e : α) (v : Value), xs[i]? = some e → (en e)[j]? = some v → W.cell? (a.add (i * k + j)) = some v := fun i j e v hi hj => by
    have hj' : j < k := by rw [← hk e]; exact (List.getElem?_eq_some_iff.1 hj).1
    have := (World.cells?_some (h2 i e hi)).2.2 j hj'
    rw [hj] at this
    rw [← this, Addr.add_add]
  refine ⟨by rw [fl_length hk], some a, cap, rfl, fun hn => ?_⟩
  obtain ⟨b, o, spot⟩ := a
  have h0 : ∃ e, xs[0]? = some e := ⟨_, List.getElem?_eq_getElem hn⟩
  obtain ⟨e, he⟩ := h0
  have hv : ∃ v, (en e)[0]? = some v := ⟨_, List.getElem?_eq_getElem (by rw [hk]; exact hk0)⟩
  obtain ⟨v, hv⟩ := hv
  have hc := hcell 0 0 e v he hv
  have hspot : spot = none := by simpa [Addr.add] using World.cell?_spot hc
  subst hspot
  refine ⟨b, o, rfl, by simpa [Addr.add] using World.block_lt_of_cell? _ _ hc, fun j v hj => ?_⟩
  have hjl : j < xs.length * k := by rw [← fl_length hk]; exact (List.getElem?_eq_some_iff.1 hj).1
  have hi : j / k < xs.length := (Nat.div_lt_iff_lt_mul hk0).2 hjl
  have hm : j % k < k := Nat.mod_lt _ hk0
  obtain ⟨e, he⟩ : ∃ e, xs[j / k]? = some e := ⟨_, List.getElem?_eq_getElem hi⟩
  obtain ⟨u, hu⟩ : ∃ u, (en e)[j % k]? = some u := ⟨_, List.getElem?_eq_getElem (by rw [hk]; exact hm)⟩
  have h5 := hcell _ _ e u he hu
  have h6 := fl_cell (o := j) hk he hu (by rw [Nat.mul_comm]; exact (Nat.div_add_mod j k).symm) []
  rw [List.append_nil, hj] at h6
  injection h6 with h6
  subst h6
  rw [show j / k * k + j % k = j by rw [Nat.mul_comm]; exact Nat.div_add_mod j k, add_plain] at h5
  exact h5
/-- what is read, thing by thing -/
def Each {α : Type} (R : α → DataW H → Prop) (xs : List α) (d : DataW H) : Prop := (d = .nil ∧ xs = []) ∨ ∃ ds sp, d = .slice ds sp ∧ ds.length = xs.length ∧ ∀ (i : Nat) (y : α) (e : DataW H), xs[i]? = some y → ds[i]? = some e → R y e
theorem trod_rowsD {α : Type} {en : α → List Value} {k : Nat} {e : TypeId} {v : Value} (R : α → DataW H → Prop) (hk : ∀ a, (en a).length = k) (hk0 : 0 < k) (hu : P.underlying t = some (.slice e)) (hc : P.cellsOf e = k)
    (hopen : ∀ {fuel : Nat} {cs : List Value} {x : DataW H × List MemPlace}, DataW.trod enc P W base spare held fuel e cs = some x → ∃ y : α, cs = en y ∧ R y x.1) (h : DataW.trod enc P W base spare held fuel t [v] = some x) :
    ∃ (a : Option Addr) (xs : List α) (c : Nat), v = .slice a xs.length c ∧ Rd W k v xs.length (fl en xs) ∧ xs.length ≤ 9223372036854775807 ∧ xs.length ≤ c ∧ Each R xs x.1 := by
  rcases Go.Deep.open_slice hu h with ⟨hcs, hx⟩ | ⟨a', len', cap', m, n, D, Pl, hcs, _, hlc, hcm, hm, hx, hcell⟩
  · simp only [List.cons.injEq, and_true] at hcs
    subst hcs
    exact ⟨none, [], 0, rfl, Rd.nil _ _ _ _, by simp, by simp, .inl ⟨by rw [hx], rfl⟩⟩
  · simp only [List.cons.injEq, and_true] at hcs
    subst hcs
    have hlm : len' ≤ m := by rw [hm]; split <;> omega
    obtain ⟨xs, h1, h2⟩ := choose_list (p := fun i (y : α) => W.cells? base (a'.add (i * k)) k = some (en y) ∧ R y (D i)) len' fun i hi => by
      obtain ⟨cs', h1, h2⟩ := hcell i (by omega)
      obtain ⟨y, rfl, hy⟩ := hopen h2
      rw [hc] at h1
      exact ⟨y, h1, hy⟩
    have hrd := rd_ofL (cap := cap') hk hk0 fun i e he => (h2 i e he).1
    simp only [maxLen] at hcm
    refine ⟨some a', xs, cap', by rw [h1], by rw [h1] at hrd ⊢; exact hrd, by omega, by omega, .inr ⟨_, _, by rw [hx], by simp [h1], fun i y e hy he => ?_⟩⟩
    rw [List.getElem?_map, Option.map_eq_some_iff] at he
    obtain ⟨j, hj, rfl⟩ := he
    rw [List.getElem?_range (by rw [← h1]; exact (List.getElem?_eq_some_iff.1 hy).1)] at hj
    injection hj with hj
    subst hj
    exact (h2 _ y hy).2
end

section
variable {H : Type}
theorem bulk_pos (d : DataW H) : 1 ≤ Rows.uptoBulk d := by
  cases d with
  | lit l => cases l <;> simp [Rows.uptoBulk]
  | _ => simp [Rows.uptoBulk]
theorem bulk_at {d : DataW H} : ∀ {ds : List (DataW H)} {i : Nat}, ds[i]? = some d → Rows.uptoBulk d ≤ Rows.uptoBulkAll ds
  | [], _, h => by simp at h
  | a :: ds, 0, h => by
    simp only [List.getElem?_cons_zero, Option.some.injEq] at h
    subst h
    simp only [Rows.uptoBulkAll]
    omega
  | a :: ds, i + 1, h => by
    have := bulk_at (ds := ds) (i := i) (by simpa using h)
    simp only [Rows.uptoBulkAll]
    omega
/-- a sum over the things -/
theorem bulk_sum {α : Type} {f : α → Nat} : ∀ {xs : List α} {ds : List (DataW H)}, ds.length = xs.length → (∀ (i : Nat) (y : α) (e : DataW H), xs[i]? = some y → ds[i]? = some e → f y ≤ Rows.uptoBulk e) → (xs.map f).sum ≤ Rows.uptoBulkAll ds
  | [], _, _, _ => by simp
  | _ :: _, [], h, _ => by simp at h
  | x :: xs, d :: ds, hl, h => by
    have h1 := h 0 x d rfl rfl
    have h2 := bulk_sum (f := f) (xs := xs) (ds := ds) (by simpa using hl) fun i y e hy he => h (i + 1) y e hy he
    simp only [List.map_cons, List.sum_cons, Rows.uptoBulkAll]
    omega
theorem sum_one {α : Type} : ∀ xs : List α, (xs.map fun _ => 1).sum = xs.length
  | [] => rfl
  | _ :: xs => by rw [List.map_cons, List.sum_cons, sum_one xs, List.length_cons]; omega
theorem Each.bulk {α : Type} {R : α → DataW H → Prop} {xs : List α} {d : DataW H} (h : Each R xs d) (f : α → Nat) (hf : ∀ y e, R y e → f y ≤ Rows.uptoBulk e) : (xs.map f).sum + 1 ≤ Rows.uptoBulk d := by
  rcases h with ⟨rfl, rfl⟩ | ⟨ds, sp, rfl, hl, hr⟩
  · simp [Rows.uptoBulk]
  · have := bulk_sum (f := f) hl fun i y e hy he => hf y e (hr i y e hy he)
    simp only [Rows.uptoBulk]
    omega
theorem Each.len {α : Type} {R : α → DataW H → Prop} {xs : List α} {d : DataW H} (h : Each R xs d) : xs.length + 1 ≤ Rows.uptoBulk d := by
  have := h.bulk (fun _ => 1) fun y e _ => bulk_pos e
  rw [sum_one] at this
  exact this
theorem Each.mem {α : Type} {R : α → DataW H → Prop} {xs : List α} {d : DataW H} (h : Each R xs d) {y : α} (hy : y ∈ xs) : ∃ e, R y e ∧ Rows.uptoBulk e ≤ Rows.uptoBulk d ∧ ∃ ds sp, d = .slice ds sp ∧ e ∈ ds := by
  rcases h with ⟨rfl, rfl⟩ | ⟨ds, sp, rfl, hl, hr⟩
  · simp at hy
  · obtain ⟨i, hi, rfl⟩ := List.getElem_of_mem hy
    have hd : ds[i]? = some ds[i] := List.getElem?_eq_getElem (by omega)
    refine ⟨ds[i], hr i _ _ (List.getElem?_eq_getElem hi) hd, ?_, ds, sp, rfl, List.mem_of_getElem? hd⟩
    have := bulk_at hd
    simp only [Rows.uptoBulk]
    omega
/-- what a thing weighs, and what is within it -/
theorem weights_mem {P : Program} {t e : TypeId} {ds sp : List (DataW H)} {d : DataW H} (hu : P.underlying t = some (.slice e)) (hd : d ∈ ds) {n : Nat} (hn : n ∈ d.weights P e) : n ∈ (DataW.slice ds sp).weights P t := by
  simp only [DataW.weights, hu]
  refine List.mem_cons_of_mem _ (List.mem_append_left _ ?_)
  induction ds with
  | nil => simp at hd
  | cons a ds ih =>
    simp only [DataW.weightsAll]
    rcases List.mem_cons.1 hd with rfl | hd
    · exact List.mem_append_left _ hn
    · exact List.mem_append_right _ (ih hd)
theorem Each.weight {α : Type} {R : α → DataW H → Prop} {P : Program} {t e : TypeId} {xs : List α} {d : DataW H} (h : Each R xs d) (hu : P.underlying t = some (.slice e)) (hw : ∀ n ∈ d.weights P t, n ≤ reachBytes) : xs.length * P.bytesOf e ≤ 140737488351232 := by
  rcases h with ⟨rfl, rfl⟩ | ⟨ds, sp, rfl, hl, hr⟩
  · simp
  · have := hw ((ds.length + sp.length) * P.bytesOf e) (by simp [DataW.weights, hu])
    rw [← hl]
    exact Nat.le_trans (Nat.mul_le_mul_right _ (by omega)) this
theorem weights_part {P : Program} {t ty : TypeId} {fs : Array Field} {parts : List (DataW H)} {i : Nat} {d : DataW H} (hu : P.underlying t = some (.struct fs)) (ht : (fs.toList.map (·.type))[i]? = some ty) (hd : parts[i]? = some d) {n : Nat} (hn : n ∈ d.weights P ty) : n ∈ (DataW.agg parts).weights P t := by
  simp only [DataW.weights, hu]
  exact DataW.weights_mem_each ht hd n hn
end

section
variable {H : Type} {enc : TypeId × Value → H} {W : World} {base : Nat} {spare : Nat → Bool} {held : Bool} {fuel : Nat} {cs : List Value} {x : DataW H × List MemPlace}
set_option maxRecDepth 100000 in
theorem open_vl (h : DataW.trod enc Try.prog W base spare held fuel 70 cs = some x) : ∃ e : Vl, cs = e.cells := by
  obtain ⟨n, hl, hf⟩ := struct_field (l := [(4, 0), (2, 1)]) (by kernel_rfl) (by kernel_rfl) h
  have c2 : Try.prog.cellsOf 2 = 1 := by kernel_rfl
  have c4 : Try.prog.cellsOf 4 = 1 := by kernel_rfl
  have c0 : Try.prog.cellsOf 70 = 2 := by kernel_rfl
  have u2 : Try.prog.underlying 2 = some (.int .i64) := by kernel_rfl
  have u4 : Try.prog.underlying 4 = some .bool := by kernel_rfl
  rw [c0] at hl
  match cs, hl with
  | [v0, v1], _ =>
    obtain ⟨_, f0⟩ := hf 0 4 0 rfl
    obtain ⟨_, f1⟩ := hf 1 2 1 rfl
    rw [c4] at f0
    rw [c2] at f1
    obtain ⟨b0, e0, _⟩ := DataW.trod_bool u4 f0
    obtain ⟨n1, e1, _⟩ := DataW.trod_int u2 f1
    simp at e0 e1
    subst e0 e1
    exact ⟨⟨b0, n1⟩, rfl⟩
/-- a match that came in -/
structure MtIn (W : World) (m : Mt) (d : DataW H) : Prop where
  rdy : m.Rdy W
  wt : (∀ n ∈ d.weights Try.prog 29, n ≤ reachBytes) → m.Sm
  bk : m.names.length ≤ Rows.uptoBulk d ∧ m.lens.length ≤ Rows.uptoBulk d ∧ m.vals.length ≤ Rows.uptoBulk d
set_option maxRecDepth 100000 in
theorem open_mt (h : DataW.trod enc Try.prog W base spare held fuel 29 cs = some x) : ∃ e : Mt, cs = e.cells ∧ MtIn W e x.1 := by
  obtain ⟨n, parts, hl, hx, hpl, hf⟩ := struct_fieldD (l := [(2, 0), (25, 1), (26, 2), (27, 3)]) (by kernel_rfl) (by kernel_rfl) h
  have c2 : Try.prog.cellsOf 2 = 1 := by kernel_rfl
  have c3 : Try.prog.cellsOf 25 = 1 := by kernel_rfl
  have c4 : Try.prog.cellsOf 26 = 1 := by kernel_rfl
  have c5 : Try.prog.cellsOf 27 = 1 := by kernel_rfl
  have c0 : Try.prog.cellsOf 29 = 4 := by kernel_rfl
  have u2 : Try.prog.underlying 2 = some (.int .i64) := by kernel_rfl
  have u29 : Try.prog.underlying 29 = some (.struct (Try.prog.fieldsOf 29)) := by kernel_rfl
  have y68 : Try.prog.bytesOf 68 = 16 := by kernel_rfl
  have y3 : Try.prog.bytesOf 3 = 8 := by kernel_rfl
  have y70 : Try.prog.bytesOf 70 = 16 := by kernel_rfl
  have ty : (Try.prog.fieldsOf 29).toList.map (·.type) = [2, 25, 26, 27] := by kernel_rfl
  rw [c0] at hl
  match cs, hl with
  | [v0, v1, v2, v3], _ =>
    obtain ⟨_, f0, -⟩ := hf 0 2 0 rfl
    obtain ⟨x1, f1, p1⟩ := hf 1 25 1 rfl
    obtain ⟨x2, f2, p2⟩ := hf 2 26 2 rfl
    obtain ⟨x3, f3, p3⟩ := hf 3 27 3 rfl
    rw [c2] at f0
    rw [c3] at f1
    rw [c4] at f2
    rw [c5] at f3
    obtain ⟨n0, e0, _⟩ := DataW.trod_int u2 f0
    obtain ⟨a1, xs1, c1, e1, h1, l1, -, w1⟩ := trod_rowsD (k := 2) (α := Nm) (v := v1) (fun _ _ => True) (fun _ => rfl) (by omega) Try.underlying25 (by kernel_rfl) (fun h => by obtain ⟨y, hy⟩ := open_nm h; exact ⟨y, hy, trivial⟩) f1
    obtain ⟨a2, xs2, c2, e2, h2, l2, -, w2⟩ := trod_rowsD (k := 1) (α := Int) (v := v2) (fun _ _ => True) encN_len (by omega) Try.underlying26 (by kernel_rfl) (fun h => by obtain ⟨y, hy⟩ := open_i h; exact ⟨y, hy, trivial⟩) f2
    obtain ⟨a3, xs3, c3, e3, h3, l3, -, w3⟩ := trod_rowsD (k := 2) (α := Vl) (v := v3) (fun _ _ => True) vl_len (by omega) Try.underlying27 (by kernel_rfl) (fun h => by obtain ⟨y, hy⟩ := open_vl h; exact ⟨y, hy, trivial⟩) f3
    simp at e0
    subst e0 e1 e2 e3
    refine ⟨⟨n0, a1, c1, xs1, a2, c2, xs2, a3, c3, xs3⟩, rfl, ⟨h1, h2, h3, l1, l2, l3⟩, fun hw => ?_, ?_⟩
    · rw [hx] at hw
      have q1 := w1.weight Try.underlying25 fun n hn => hw n (weights_part u29 (by rw [ty]; rfl) p1 hn)
      have q2 := w2.weight Try.underlying26 fun n hn => hw n (weights_part u29 (by rw [ty]; rfl) p2 hn)
      have q3 := w3.weight Try.underlying27 fun n hn => hw n (weights_part u29 (by rw [ty]; rfl) p3 hn)
      rw [y68] at q1
      rw [y3] at q2
      rw [y70] at q3
      exact ⟨q1, q2, q3⟩
    · have b1 := bulk_at p1; have b2 := bulk_at p2; have b3 := bulk_at p3
      have k1 := w1.len; have k2 := w2.len; have k3 := w3.len
      rw [hx]
      simp only [Rows.uptoBulk]
      omega
/-- a list of matches that came in -/
structure MlIn (W : World) (r : Ml) (d : DataW H) : Prop where
  rd : Rd W 4 (.slice r.a r.ms.length r.c) r.ms.length (fl Mt.cells r.ms)
  each : Each (MtIn W) r.ms d
set_option maxRecDepth 100000 in
theorem open_ml (h : DataW.trod enc Try.prog W base spare held fuel 23 cs = some x) : ∃ e : Ml, cs = e.cells ∧ MlIn W e x.1 := by
  have h1 : ∃ v, cs = [v] := by
    rcases Go.Deep.open_slice Try.underlying23 h with ⟨h, _⟩ | ⟨a, l, c, _, _, _, _, h, _⟩ <;> exact ⟨_, h⟩
  obtain ⟨v, rfl⟩ := h1
  obtain ⟨a, xs, c, rfl, h1, -, -, w1⟩ := trod_rowsD (k := 4) (α := Mt) (MtIn W) mt_len (by omega) Try.underlying23 (by kernel_rfl) (fun h => open_mt h) h
  exact ⟨⟨a, c, xs⟩, rfl, h1, w1⟩
theorem allMs_len (rows : List Ml) : (allMs rows).length = (rows.map fun r => r.ms.length).sum := by simp [allMs, List.length_flatMap]
/-- lists of matches that came in, of so little bulk -/
theorem open_mls {v : Value} {d : DataW H} {ps : List MemPlace} (hok : ∃ a len cap, v = .slice a len cap) (h : DataW.Trod enc Try.prog W base spare held 22 v d ps) (hb : Rows.uptoBulk d ≤ 1048576) :
    ∃ (a : Option Addr) (rows : List Ml) (c : Nat), v = .slice a rows.length c ∧ Rd W 1 (.slice a rows.length c) rows.length (fl Ml.cells rows) ∧ (∀ r ∈ rows, r.Rdy W) ∧ rows.length ≤ 1048576 ∧ (allMs rows).length ≤ 1048576 := by
  obtain ⟨a, len, cap, rfl⟩ := hok
  obtain ⟨fuel, hf⟩ := h
  have hf' : DataW.trod enc Try.prog W base spare held fuel 22 [.slice a len cap] = some (d, ps) := hf
  obtain ⟨a, rows, c, he, h1, -, -, w1⟩ := trod_rowsD (k := 1) (α := Ml) (MlIn W) ml_len (by omega) Try.underlying22 (by kernel_rfl) (fun h => open_ml h) hf'
  rw [he] at h1
  have hlen := w1.len
  have hsum := w1.bulk (fun r => r.ms.length) fun r e hr => by have := hr.each.len; omega
  rw [← allMs_len] at hsum
  simp only at hlen hsum
  refine ⟨a, rows, c, he, h1, fun r hr => ?_, by omega, by omega⟩
  obtain ⟨e, hre, hbe, -⟩ := w1.mem hr
  refine ⟨hre.rd, fun m hm => ?_, fun m hm => ?_⟩
  · obtain ⟨e2, hm2, _⟩ := hre.each.mem hm
    exact hm2.rdy
  · obtain ⟨e2, hm2, hb2, _⟩ := hre.each.mem hm
    have := hm2.bk
    simp only at hbe hb2
    exact ⟨by omega, by omega, by omega⟩
end
end Go.Proofs.Ytpnigekkbmanlaa
