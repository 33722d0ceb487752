/- The rows' openings: a slice of events, of names, of ints, that is read in, as the walks have it. Conditions: what the reading says. -/
import Derived.Test.YtpnigekkbmanlaaCm
import Derived.Test.YtpnigekkbmanlaaRows
import Derived.ProofKit
import Derived.Deep.Slices
import Derived.SizedLaws
import Derived.OpenShut
import Derived.Below
import Derived.DeepKeys
namespace Go.Proofs.Ytpnigekkbmanlaa
open Sx
open Go.ChangeShapes Go.WideShapes Go.ChangeAt Go.RowKit
theorem own : ownKnob Try.prog.godebug = none := by kernel_rfl
theorem laidOut : laidOutB Try.prog = true := by kernel_rfl

section
variable {H : Type} {enc : TypeId × Value → H} {P : Program} {W : World} {base : Nat} {spare : Nat → Bool} {held : Bool} {fuel : Nat} {t : TypeId} {cs : List Value} {x : DataW H × List MemPlace}

theorem struct_field {l : List (TypeId × Nat)} (ht : P.underlying t = some (.struct (P.fieldsOf t))) (hl : ((P.fieldsOf t).toList.map fun f => (f.type, f.offset)) = l) (h : DataW.trod enc P W base spare held fuel t cs = some x) :
    ∃ n, cs.length = P.cellsOf t ∧ ∀ (i : Nat) (ty : TypeId) (off : Nat), l[i]? = some (ty, off) → ∃ y, DataW.trod enc P W base spare held n ty ((cs.drop off).take (P.cellsOf ty)) = some y := by
  obtain ⟨xs, n, _, _, hlen, hxs, hf⟩ := DataW.trod_struct ht h
  refine ⟨n, hlen, fun i ty off hi => ?_⟩
  rw [← hl, List.getElem?_map, Option.map_eq_some_iff] at hi
  obtain ⟨f, hf1, hf2⟩ := hi
  simp only [Prod.mk.injEq] at hf2
  obtain ⟨rfl, rfl⟩ := hf2
  have hf1' : (P.fieldsOf t)[i]? = some f := by simpa using hf1
  have := hf i f hf1'
  have hi' : i < xs.length := by rw [hxs]; exact (Array.getElem?_eq_some_iff.1 hf1').1
  exact ⟨_, this.trans (List.getElem?_eq_getElem hi')⟩
theorem array_item {e : TypeId} {n : Nat} (ht : P.underlying t = some (.array n e)) (h : DataW.trod enc P W base spare held fuel t cs = some x) :
    ∃ m, cs.length = P.cellsOf t ∧ ∀ i : Nat, i < n → ∃ y, DataW.trod enc P W base spare held m e ((cs.drop (i * P.cellsOf e)).take (P.cellsOf e)) = some y := by
  obtain ⟨xs, m, _, _, hlen, hxs, hf⟩ := DataW.trod_array ht h
  exact ⟨m, hlen, fun i hi => ⟨_, (hf i hi).trans (List.getElem?_eq_getElem (by omega))⟩⟩

theorem choose_list {α : Type} {p : Nat → α → Prop} : ∀ n : Nat, (∀ i, i < n → ∃ e, p i e) → ∃ xs : List α, xs.length = n ∧ ∀ (i : Nat) (e : α), xs[i]? = some e → p i e
  | 0, _ => ⟨[], rfl, by simp⟩
  | n + 1, h => by
    obtain ⟨xs, h1, h2⟩ := choose_list n fun i hi => h i (by omega)
    obtain ⟨e, he⟩ := h n (by omega)
    refine ⟨xs ++ [e], by simp [h1], fun i e' hi => ?_⟩
    rcases Nat.lt_or_ge i n with hlt | hge
    · rw [List.getElem?_append_left (by omega)] at hi
      exact h2 i e' hi
    · have := (List.getElem?_eq_some_iff.1 hi).1
      simp at this
      obtain rfl : i = n := by omega
      simp [← h1] at hi
      subst hi
      exact he

theorem rd_of {α : Type} {en : α → List Value} {k : Nat} (hk : ∀ a, (en a).length = k) (hk0 : 0 < k) {a : Addr} {len cap : Nat} (hx : ∀ i, i < len → ∃ e : α, W.cells? base (a.add (i * k)) k = some (en e)) :
    ∃ xs : List α, xs.length = len ∧ Rd W k (.slice (some a) len cap) xs.length (fl en xs) := by
  obtain ⟨xs, h1, h2⟩ := choose_list (p := fun i e => W.cells? base (a.add (i * k)) k = some (en e)) len hx
  have hcell : ∀ (i j : Nat) (e : α) (v : Value), xs[i]? = some e → (en e)[j]? = some v → W.cell? (a.add (i * k + j)) = some v := fun i j e v hi hj => by
    have hj' : j < k := by rw [← hk e]; exact (List.getElem?_eq_some_iff.1 hj).1
    have := (World.cells?_some (h2 i e hi)).2.2 j hj'
    rw [hj] at this
    rw [← this, Addr.add_add]
  refine ⟨xs, h1, by rw [fl_length hk], some a, cap, by rw [h1], fun hn => ?_⟩
  obtain ⟨b, o, spot⟩ := a
  have h0 : ∃ e, xs[0]? = some e := ⟨_, List.getElem?_eq_getElem hn⟩
  obtain ⟨e, he⟩ := h0
  have hv : ∃ v, (en e)[0]? = some v := ⟨_, List.getElem?_eq_getElem (by rw [hk]; exact hk0)⟩
  obtain ⟨v, hv⟩ := hv
  have hc := hcell 0 0 e v he hv
  have hspot : spot = none := by simpa [Addr.add] using World.cell?_spot hc
  subst hspot
  refine ⟨b, o, rfl, by simpa [Addr.add] using World.block_lt_of_cell? _ _ hc, fun j v hj => ?_⟩
  have hjl : j < xs.length * k := by rw [← fl_length hk]; exact (List.getElem?_eq_some_iff.1 hj).1
  have hi : j / k < xs.length := (Nat.div_lt_iff_lt_mul hk0).2 hjl
  have hm : j % k < k := Nat.mod_lt _ hk0
  obtain ⟨e, he⟩ : ∃ e, xs[j / k]? = some e := ⟨_, List.getElem?_eq_getElem hi⟩
  obtain ⟨u, hu⟩ : ∃ u, (en e)[j % k]? = some u := ⟨_, List.getElem?_eq_getElem (by rw [hk]; exact hm)⟩
  have h5 := hcell _ _ e u he hu
  have h6 := fl_cell (o := j) hk he hu (by rw [Nat.mul_comm]; exact (Nat.div_add_mod j k).symm) []
  rw [List.append_nil, hj] at h6
  injection h6 with h6
  subst h6
  rw [show j / k * k + j % k = j by rw [Nat.mul_comm]; exact Nat.div_add_mod j k, add_plain] at h5
  exact h5
end

section
variable {H : Type} {enc : TypeId × Value → H} {W : World} {base : Nat} {spare : Nat → Bool} {held : Bool} {fuel : Nat} {cs : List Value} {x : DataW H × List MemPlace}
theorem len1 {α : Type} {l : List α} (h : l.length = 1) : ∃ a, l = [a] := by
  match l, h with
  | [a], _ => exact ⟨a, rfl⟩

set_option maxRecDepth 100000 in
theorem open_ev (h : DataW.trod enc Try.prog W base spare held fuel 89 cs = some x) : ∃ e : Ev, cs = e.cells := by
  obtain ⟨n, hl, hf⟩ := struct_field (l := [(2, 0), (66, 1), (3, 2), (87, 3)]) (by kernel_rfl) (by kernel_rfl) h
  have c2 : Try.prog.cellsOf 2 = 1 := by kernel_rfl
  have c66 : Try.prog.cellsOf 66 = 1 := by kernel_rfl
  have c3 : Try.prog.cellsOf 3 = 1 := by kernel_rfl
  have c87 : Try.prog.cellsOf 87 = 8 := by kernel_rfl
  have c89 : Try.prog.cellsOf 89 = 11 := by kernel_rfl
  have u2 : Try.prog.underlying 2 = some (.int .i64) := by kernel_rfl
  have u66 : Try.prog.underlying 66 = some (.int .u64) := by kernel_rfl
  have u3 : Try.prog.underlying 3 = some (.int .i64) := by kernel_rfl
  rw [c89] at hl
  match cs, hl with
  | [v0, v1, v2, v3, v4, v5, v6, v7, v8, v9, v10], _ =>
    obtain ⟨_, f0⟩ := hf 0 2 0 rfl
    obtain ⟨_, f1⟩ := hf 1 66 1 rfl
    obtain ⟨_, f2⟩ := hf 2 3 2 rfl
    obtain ⟨_, f3⟩ := hf 3 87 3 rfl
    rw [c2] at f0
    rw [c66] at f1
    rw [c3] at f2
    rw [c87] at f3
    obtain ⟨n0, e0, _⟩ := DataW.trod_int u2 f0
    obtain ⟨n1, e1, _⟩ := DataW.trod_int u66 f1
    obtain ⟨n2, e2, _⟩ := DataW.trod_int u3 f2
    obtain ⟨m, _, hm⟩ := array_item (e := 2) (n := 8) (by kernel_rfl) f3
    rw [c2] at hm
    obtain ⟨_, g0⟩ := hm 0 (by omega)
    obtain ⟨_, g1⟩ := hm 1 (by omega)
    obtain ⟨_, g2⟩ := hm 2 (by omega)
    obtain ⟨_, g3⟩ := hm 3 (by omega)
    obtain ⟨_, g4⟩ := hm 4 (by omega)
    obtain ⟨_, g5⟩ := hm 5 (by omega)
    obtain ⟨_, g6⟩ := hm 6 (by omega)
    obtain ⟨_, g7⟩ := hm 7 (by omega)
    obtain ⟨k0, r0, _⟩ := DataW.trod_int u2 g0
    obtain ⟨k1, r1, _⟩ := DataW.trod_int u2 g1
    obtain ⟨k2, r2, _⟩ := DataW.trod_int u2 g2
    obtain ⟨k3, r3, _⟩ := DataW.trod_int u2 g3
    obtain ⟨k4, r4, _⟩ := DataW.trod_int u2 g4
    obtain ⟨k5, r5, _⟩ := DataW.trod_int u2 g5
    obtain ⟨k6, r6, _⟩ := DataW.trod_int u2 g6
    obtain ⟨k7, r7, _⟩ := DataW.trod_int u2 g7
    simp at e0 e1 e2 r0 r1 r2 r3 r4 r5 r6 r7
    subst e0 e1 e2 r0 r1 r2 r3 r4 r5 r6 r7
    exact ⟨⟨n0, n1, n2, k0, k1, k2, k3, k4, k5, k6, k7⟩, rfl⟩
set_option maxRecDepth 100000 in
theorem open_nm (h : DataW.trod enc Try.prog W base spare held fuel 68 cs = some x) : ∃ e : Nm, cs = e.cells := by
  obtain ⟨n, hl, hf⟩ := struct_field (l := [(2, 0), (66, 1)]) (by kernel_rfl) (by kernel_rfl) h
  have c2 : Try.prog.cellsOf 2 = 1 := by kernel_rfl
  have c66 : Try.prog.cellsOf 66 = 1 := by kernel_rfl
  have c68 : Try.prog.cellsOf 68 = 2 := by kernel_rfl
  have u2 : Try.prog.underlying 2 = some (.int .i64) := by kernel_rfl
  have u66 : Try.prog.underlying 66 = some (.int .u64) := by kernel_rfl
  rw [c68] at hl
  match cs, hl with
  | [v0, v1], _ =>
    obtain ⟨_, f0⟩ := hf 0 2 0 rfl
    obtain ⟨_, f1⟩ := hf 1 66 1 rfl
    rw [c2] at f0
    rw [c66] at f1
    obtain ⟨n0, e0, _⟩ := DataW.trod_int u2 f0
    obtain ⟨n1, e1, _⟩ := DataW.trod_int u66 f1
    simp at e0 e1
    subst e0 e1
    exact ⟨⟨n0, n1⟩, rfl⟩

set_option maxRecDepth 100000 in
theorem open_bl (h : DataW.trod enc Try.prog W base spare held fuel 4 cs = some x) : ∃ e : Bool, cs = encB e := by
  obtain ⟨b, e0, _⟩ := DataW.trod_bool (show Try.prog.underlying 4 = some .bool by kernel_rfl) h
  exact ⟨b, e0⟩
set_option maxRecDepth 100000 in
theorem open_i (h : DataW.trod enc Try.prog W base spare held fuel 3 cs = some x) : ∃ e : Int, cs = encI e := by
  obtain ⟨n, e0, _⟩ := DataW.trod_int (show Try.prog.underlying 3 = some (.int .i64) by kernel_rfl) h
  exact ⟨n, e0⟩

/-- what a slice's reading weighs -/
theorem slice_weight {P : Program} {ts : List TypeId} {ds : List (DataW H)} {j : Nat} {t e : TypeId} {es rs : List (DataW H)} (hsz : (DataW.weightsEach P ts ds).all (· ≤ reachBytes) = true) (ht : ts[j]? = some t) (hd : ds[j]? = some (.slice es rs)) (hu : P.underlying t = some (.slice e)) :
    (es.length + rs.length) * P.bytesOf e ≤ 140737488351232 := by
  have := List.all_eq_true.1 hsz _ (DataW.weights_mem_each ht hd ((es.length + rs.length) * P.bytesOf e) (by simp [DataW.weights, hu]))
  exact of_decide_eq_true this

/-- **A slice that came in**: as the walks read it; how long its things are, by the reading's weight. -/
theorem open_rows {α : Type} {en : α → List Value} {k : Nat} {t e : TypeId} {v : Value} {ts : List TypeId} {ds : List (DataW H)} {j : Nat} {d : DataW H} {ps : List MemPlace} (hk : ∀ a, (en a).length = k) (hk0 : 0 < k) (hu : Try.prog.underlying t = some (.slice e)) (hc : Try.prog.cellsOf e = k)
    (hopen : ∀ {fuel : Nat} {cs : List Value} {x : DataW H × List MemPlace}, DataW.trod enc Try.prog W base spare held fuel e cs = some x → ∃ y : α, cs = en y)
    (hok : ∃ a len cap, v = .slice a len cap) (hsz : (DataW.weightsEach Try.prog ts ds).all (· ≤ reachBytes) = true) (ht : ts[j]? = some t) (hd : ds[j]? = some d) (h : DataW.Trod enc Try.prog W base spare held t v d ps) :
    ∃ xs : List α, Rd W k v xs.length (fl en xs) ∧ xs.length * Try.prog.bytesOf e ≤ 140737488351232 := by
  obtain ⟨a, len, cap, rfl⟩ := hok
  obtain ⟨fuel, hf⟩ := h
  rcases Go.Deep.open_slice hu hf with ⟨hcs, _⟩ | ⟨a', len', cap', m, n, D, Pl, hcs, _, hlc, _, hm, hx, hcell⟩
  · simp [Value.cells] at hcs
    obtain ⟨rfl, rfl, rfl⟩ := hcs
    exact ⟨[], Rd.nil _ _ _ _, by simp⟩
  · simp [Value.cells] at hcs
    obtain ⟨rfl, rfl, rfl⟩ := hcs
    have hlm : len ≤ m := by rw [hm]; split <;> omega
    obtain ⟨xs, hl, hrd⟩ := rd_of (W := W) (base := base) (a := a') (len := len) (cap := cap) hk hk0 fun i hi => by
      obtain ⟨cs', h1, h2⟩ := hcell i (by omega)
      obtain ⟨y, rfl⟩ := hopen h2
      rw [hc] at h1
      exact ⟨y, h1⟩
    refine ⟨xs, by rw [hl] at hrd ⊢; exact hrd, ?_⟩
    simp only [Prod.mk.injEq] at hx
    have hw := slice_weight hsz ht (by rw [hd, hx.1]) hu
    simp at hw
    rw [hl]
    exact Nat.le_trans (Nat.mul_le_mul_right _ (by omega)) hw
end
end Go.Proofs.Ytpnigekkbmanlaa
