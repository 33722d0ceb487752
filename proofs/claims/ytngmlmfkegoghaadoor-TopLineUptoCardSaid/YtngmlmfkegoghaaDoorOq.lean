/- Queries and matches that came in: as the walks read them, with how much they are. Conditions: what the reading says. -/
import Derived.Test.YtngmlmfkegoghaaDoorTl
import Derived.Test.YtngmlmfkegoghaaDoorRows
import Derived.ProofKit
import Derived.Deep.Slices
import Derived.SizedLaws
import Derived.OpenShut
import Derived.Below
import Derived.DeepKeys
import Derived.ChangeArms
import Derived.Lib.ItoaLen
namespace Go.Proofs.YtngmlmfkegoghaaDoor
open Sx
open Go.ChangeShapes Go.WideShapes Go.ChangeAt Go.RowKit
theorem own4 : ownKnob Tryd.prog.godebug = none := by kernel_rfl
theorem laidOut : laidOutB Tryd.prog = true := by kernel_rfl

theorem choose_list {α : Type} {p : Nat → α → Prop} : ∀ n : Nat, (∀ i, i < n → ∃ e, p i e) → ∃ xs : List α, xs.length = n ∧ ∀ (i : Nat) (e : α), xs[i]? = some e → p i e
  | 0, _ => ⟨[], rfl, by simp⟩
  | n + 1, h => by
    obtain ⟨xs, h1, h2⟩ := choose_list n fun i hi => h i (by omega)
    obtain ⟨e, he⟩ := h n (by omega)
    refine ⟨xs ++ [e], by simp [h1], fun i e' hi => ?_⟩
    rcases Nat.lt_or_ge i n with hlt | hge
    · rw [List.getElem?_append_left (by omega)] at hi
      exact h2 i e' hi
    · have := (List.getElem?_eq_some_iff.1 hi).1
      simp at this
      obtain rfl : i = n := by omega
      simp [← h1] at hi
      subst hi
      exact he

section
variable {H : Type} {enc : TypeId × Value → H} {P : Program} {W : World} {base : Nat} {spare : Nat → Bool} {held : Bool} {fuel : Nat} {t : TypeId} {cs : List Value} {x : DataW H × List MemPlace}
theorem struct_fieldD {l : List (TypeId × Nat)} (ht : P.underlying t = some (.struct (P.fieldsOf t))) (hl : ((P.fieldsOf t).toList.map fun f => (f.type, f.offset)) = l) (h : DataW.trod enc P W base spare held fuel t cs = some x) :
    ∃ n parts, cs.length = P.cellsOf t ∧ x.1 = .agg parts ∧ parts.length = l.length ∧ ∀ (i : Nat) (ty : TypeId) (off : Nat), l[i]? = some (ty, off) → ∃ y, DataW.trod enc P W base spare held n ty ((cs.drop off).take (P.cellsOf ty)) = some y ∧ parts[i]? = some y.1 := by
  obtain ⟨xs, n, _, hx, hlen, hxs, hf⟩ := DataW.trod_struct ht h
  refine ⟨n, xs.map (·.1), hlen, by rw [hx], by rw [← hl]; simp [hxs], fun i ty off hi => ?_⟩
  rw [← hl, List.getElem?_map, Option.map_eq_some_iff] at hi
  obtain ⟨f, hf1, hf2⟩ := hi
  simp only [Prod.mk.injEq] at hf2
  obtain ⟨rfl, rfl⟩ := hf2
  have hf1' : (P.fieldsOf t)[i]? = some f := by simpa using hf1
  have := hf i f hf1'
  have hi' : i < xs.length := by rw [hxs]; exact (Array.getElem?_eq_some_iff.1 hf1').1
  exact ⟨_, this.trans (List.getElem?_eq_getElem hi'), by rw [List.getElem?_map, List.getElem?_eq_getElem hi']; rfl⟩
theorem rd_ofL {α : Type} {en : α → List Value} {k : Nat} (hk : ∀ a, (en a).length = k) (hk0 : 0 < k) {a : Addr} {cap : Nat} {xs : List α} (h2 : ∀ (i : Nat) (e : α), xs[i]? = some e → W.cells? base (a.add (i * k)) k = some (en e)) :
    Rd W k (.slice (some a) xs.length cap) xs.length (fl en xs) := by
  have hcell : ∀ (i j : Nat) (e : α) (v : Value), xs[i]? = some e → (en e)[j]? = some v → W.cell? (a.add (i * k + j)) = some v := fun i j e v hi hj => by
    have hj' : j < k := by rw [← hk e]; exact (List.getElem?_eq_some_iff.1 hj).1
    have := (World.cells?_some (h2 i e hi)).2.2 j hj'
    rw [hj] at this
    rw [← this, Addr.add_add]
  refine ⟨by rw [fl_length hk], some a, cap, rfl, fun hn => ?_⟩
  obtain ⟨b, o, spot⟩ := a
  have h0 : ∃ e, xs[0]? = some e := ⟨_, List.getElem?_eq_getElem hn⟩
  obtain ⟨e, he⟩ := h0
  have hv : ∃ v, (en e)[0]? = some v := ⟨_, List.getElem?_eq_getElem (by rw [hk]; exact hk0)⟩
  obtain ⟨v, hv⟩ := hv
  have hc := hcell 0 0 e v he hv
  have hspot : spot = none := by simpa [Addr.add] using World.cell?_spot hc
  subst hspot
  refine ⟨b, o, rfl, by simpa [Addr.add] using World.block_lt_of_cell? _ _ hc, fun j v hj => ?_⟩
  have hjl : j < xs.length * k := by rw [← fl_length hk]; exact (List.getElem?_eq_some_iff.1 hj).1
  have hi : j / k < xs.length := (Nat.div_lt_iff_lt_mul hk0).2 hjl
  have hm : j % k < k := Nat.mod_lt _ hk0
  obtain ⟨e, he⟩ : ∃ e, xs[j / k]? = some e := ⟨_, List.getElem?_eq_getElem hi⟩
  obtain ⟨u, hu⟩ : ∃ u, (en e)[j % k]? = some u := ⟨_, List.getElem?_eq_getElem (by rw [hk]; exact hm)⟩
  have h5 := hcell _ _ e u he hu
  have h6 := fl_cell (o := j) hk he hu (by rw [Nat.mul_comm]; exact (Nat.div_add_mod j k).symm) []
  rw [List.append_nil, hj] at h6
  injection h6 with h6
  subst h6
  rw [show j / k * k + j % k = j by rw [Nat.mul_comm]; exact Nat.div_add_mod j k, add_plain] at h5
  exact h5
/-- what is read, thing by thing -/
def Each {α : Type} (R : α → DataW H → Prop) (xs : List α) (d : DataW H) : Prop := (d = .nil ∧ xs = []) ∨ ∃ ds sp, d = .slice ds sp ∧ ds.length = xs.length ∧ ∀ (i : Nat) (y : α) (e : DataW H), xs[i]? = some y → ds[i]? = some e → R y e
theorem trod_rowsD {α : Type} {en : α → List Value} {k : Nat} {e : TypeId} {v : Value} (R : α → DataW H → Prop) (hk : ∀ a, (en a).length = k) (hk0 : 0 < k) (hu : P.underlying t = some (.slice e)) (hc : P.cellsOf e = k)
    (hopen : ∀ {fuel : Nat} {cs : List Value} {x : DataW H × List MemPlace}, DataW.trod enc P W base spare held fuel e cs = some x → ∃ y : α, cs = en y ∧ R y x.1) (h : DataW.trod enc P W base spare held fuel t [v] = some x) :
    ∃ (a : Option Addr) (xs : List α) (c : Nat), v = .slice a xs.length c ∧ Rd W k v xs.length (fl en xs) ∧ xs.length ≤ 9223372036854775807 ∧ xs.length ≤ c ∧ Each R xs x.1 := by
  rcases Go.Deep.open_slice hu h with ⟨hcs, hx⟩ | ⟨a', len', cap', m, n, D, Pl, hcs, _, hlc, hcm, hm, hx, hcell⟩
  · simp only [List.cons.injEq, and_true] at hcs
    subst hcs
    exact ⟨none, [], 0, rfl, Rd.nil _ _ _ _, by simp, by simp, .inl ⟨by rw [hx], rfl⟩⟩
  · simp only [List.cons.injEq, and_true] at hcs
    subst hcs
    have hlm : len' ≤ m := by rw [hm]; split <;> omega
    obtain ⟨xs, h1, h2⟩ := choose_list (p := fun i (y : α) => W.cells? base (a'.add (i * k)) k = some (en y) ∧ R y (D i)) len' fun i hi => by
      obtain ⟨cs', h1, h2⟩ := hcell i (by omega)
      obtain ⟨y, rfl, hy⟩ := hopen h2
      rw [hc] at h1
      exact ⟨y, h1, hy⟩
    have hrd := rd_ofL (cap := cap') hk hk0 fun i e he => (h2 i e he).1
    simp only [maxLen] at hcm
    refine ⟨some a', xs, cap', by rw [h1], by rw [h1] at hrd ⊢; exact hrd, by omega, by omega, .inr ⟨_, _, by rw [hx], by simp [h1], fun i y e hy he => ?_⟩⟩
    rw [List.getElem?_map, Option.map_eq_some_iff] at he
    obtain ⟨j, hj, rfl⟩ := he
    rw [List.getElem?_range (by rw [← h1]; exact (List.getElem?_eq_some_iff.1 hy).1)] at hj
    injection hj with hj
    subst hj
    exact (h2 _ y hy).2
end

section
variable {H : Type}
theorem bulk_pos (d : DataW H) : 1 ≤ Rows.uptoBulk d := by
  cases d with
  | lit l => cases l <;> simp [Rows.uptoBulk]
  | _ => simp [Rows.uptoBulk]
theorem bulk_at {d : DataW H} : ∀ {ds : List (DataW H)} {i : Nat}, ds[i]? = some d → Rows.uptoBulk d ≤ Rows.uptoBulkAll ds
  | [], _, h => by simp at h
  | a :: ds, 0, h => by
    simp only [List.getElem?_cons_zero, Option.some.injEq] at h
    subst h
    simp only [Rows.uptoBulkAll]
    omega
  | a :: ds, i + 1, h => by
    have := bulk_at (ds := ds) (i := i) (by simpa using h)
    simp only [Rows.uptoBulkAll]
    omega
/-- a sum over the things -/
theorem bulk_sum {α : Type} {f : α → Nat} : ∀ {xs : List α} {ds : List (DataW H)}, ds.length = xs.length → (∀ (i : Nat) (y : α) (e : DataW H), xs[i]? = some y → ds[i]? = some e → f y ≤ Rows.uptoBulk e) → (xs.map f).sum ≤ Rows.uptoBulkAll ds
  | [], _, _, _ => by simp
  | _ :: _, [], h, _ => by simp at h
  | x :: xs, d :: ds, hl, h => by
    have h1 := h 0 x d rfl rfl
    have h2 := bulk_sum (f := f) (xs := xs) (ds := ds) (by simpa using hl) fun i y e hy he => h (i + 1) y e hy he
    simp only [List.map_cons, List.sum_cons, Rows.uptoBulkAll]
    omega
theorem sum_one {α : Type} : ∀ xs : List α, (xs.map fun _ => 1).sum = xs.length
  | [] => rfl
  | _ :: xs => by rw [List.map_cons, List.sum_cons, sum_one xs, List.length_cons]; omega
theorem Each.bulk {α : Type} {R : α → DataW H → Prop} {xs : List α} {d : DataW H} (h : Each R xs d) (f : α → Nat) (hf : ∀ y e, R y e → f y ≤ Rows.uptoBulk e) : (xs.map f).sum + 1 ≤ Rows.uptoBulk d := by
  rcases h with ⟨rfl, rfl⟩ | ⟨ds, sp, rfl, hl, hr⟩
  · simp [Rows.uptoBulk]
  · have := bulk_sum (f := f) hl fun i y e hy he => hf y e (hr i y e hy he)
    simp only [Rows.uptoBulk]
    omega
theorem Each.len {α : Type} {R : α → DataW H → Prop} {xs : List α} {d : DataW H} (h : Each R xs d) : xs.length + 1 ≤ Rows.uptoBulk d := by
  have := h.bulk (fun _ => 1) fun y e _ => bulk_pos e
  rw [sum_one] at this
  exact this
theorem Each.mem {α : Type} {R : α → DataW H → Prop} {xs : List α} {d : DataW H} (h : Each R xs d) {y : α} (hy : y ∈ xs) : ∃ e, R y e ∧ Rows.uptoBulk e ≤ Rows.uptoBulk d ∧ ∃ ds sp, d = .slice ds sp ∧ e ∈ ds := by
  rcases h with ⟨rfl, rfl⟩ | ⟨ds, sp, rfl, hl, hr⟩
  · simp at hy
  · obtain ⟨i, hi, rfl⟩ := List.getElem_of_mem hy
    have hd : ds[i]? = some ds[i] := List.getElem?_eq_getElem (by omega)
    refine ⟨ds[i], hr i _ _ (List.getElem?_eq_getElem hi) hd, ?_, ds, sp, rfl, List.mem_of_getElem? hd⟩
    have := bulk_at hd
    simp only [Rows.uptoBulk]
    omega
end

section
variable {H : Type} {enc : TypeId × Value → H} {W : World} {base : Nat} {spare : Nat → Bool} {held : Bool} {fuel : Nat} {cs : List Value} {x : DataW H × List MemPlace}
theorem u2 : Tryd.prog.underlying 2 = some (.int .i64) := by kernel_rfl
theorem u3 : Tryd.prog.underlying 3 = some (.int .i64) := by kernel_rfl
theorem u4 : Tryd.prog.underlying 4 = some .bool := by kernel_rfl
theorem u56 : Tryd.prog.underlying 56 = some (.int .u64) := by kernel_rfl
theorem u24 : Tryd.prog.underlying 24 = some (.int .i64) := by kernel_rfl
theorem u25 : Tryd.prog.underlying 25 = some (.int .i64) := by kernel_rfl
theorem u47 : Tryd.prog.underlying 47 = some (.int .i64) := by kernel_rfl
theorem c1s : [2, 3, 4, 9, 23, 24, 25, 26, 27, 30, 31, 32, 47, 56].all (fun t => Tryd.prog.cellsOf t == 1) = true := by kernel_rfl
theorem c1_of {t : Nat} (h : t ∈ [2, 3, 4, 9, 23, 24, 25, 26, 27, 30, 31, 32, 47, 56]) : Tryd.prog.cellsOf t = 1 := by simpa using List.all_eq_true.1 c1s t h
theorem wf_i {n : Int} (h : (Lit.int .i64 n).wf = true) : -9223372036854775808 ≤ n ∧ n ≤ 9223372036854775807 := by
  have a : IntKind.i64.min = -9223372036854775808 := by decide
  have b : IntKind.i64.max = 9223372036854775807 := by decide
  simp [Lit.wf] at h
  omega
theorem wf_u {n : Int} (h : (Lit.int .u64 n).wf = true) : 0 ≤ n ∧ n ≤ 18446744073709551615 := by
  have a : IntKind.u64.min = 0 := by decide
  have b : IntKind.u64.max = 18446744073709551615 := by decide
  simp [Lit.wf] at h
  omega
def NmFit (x : Nm) : Prop := (-9223372036854775808 ≤ x.ts ∧ x.ts ≤ 9223372036854775807) ∧ 0 ≤ x.id ∧ x.id ≤ 18446744073709551615
def VlFit (x : Vl) : Prop := -9223372036854775808 ≤ x.n ∧ x.n ≤ 9223372036854775807
set_option maxRecDepth 100000 in
theorem open_nm (h : DataW.trod enc Tryd.prog W base spare held fuel 58 cs = some x) : ∃ e : Nm, cs = e.cells ∧ NmFit e := by
  obtain ⟨n, parts, hl, -, -, hf⟩ := struct_fieldD (l := [(2, 0), (56, 1)]) (by kernel_rfl) (by kernel_rfl) h
  have c0 : Tryd.prog.cellsOf 58 = 2 := by kernel_rfl
  rw [c0] at hl
  match cs, hl with
  | [v0, v1], _ =>
    obtain ⟨_, f0, -⟩ := hf 0 2 0 rfl
    obtain ⟨_, f1, -⟩ := hf 1 56 1 rfl
    rw [c1_of (by decide)] at f0 f1
    obtain ⟨n0, e0, -, k0⟩ := DataW.trod_int u2 f0
    obtain ⟨n1, e1, -, k1⟩ := DataW.trod_int u56 f1
    simp at e0 e1
    subst e0 e1
    exact ⟨⟨n0, n1⟩, rfl, wf_i k0, wf_u k1⟩
set_option maxRecDepth 100000 in
theorem open_vl (h : DataW.trod enc Tryd.prog W base spare held fuel 61 cs = some x) : ∃ e : Vl, cs = e.cells ∧ VlFit e := by
  obtain ⟨n, parts, hl, -, -, hf⟩ := struct_fieldD (l := [(4, 0), (2, 1)]) (by kernel_rfl) (by kernel_rfl) h
  have c0 : Tryd.prog.cellsOf 61 = 2 := by kernel_rfl
  rw [c0] at hl
  match cs, hl with
  | [v0, v1], _ =>
    obtain ⟨_, f0, -⟩ := hf 0 4 0 rfl
    obtain ⟨_, f1, -⟩ := hf 1 2 1 rfl
    rw [c1_of (by decide)] at f0 f1
    obtain ⟨b0, e0, -⟩ := DataW.trod_bool u4 f0
    obtain ⟨n1, e1, -, k1⟩ := DataW.trod_int u2 f1
    simp at e0 e1
    subst e0 e1
    exact ⟨⟨b0, n1⟩, rfl, wf_i k1⟩
theorem open_i (h : DataW.trod enc Tryd.prog W base spare held fuel 3 cs = some x) : ∃ e : Int, cs = encN e := by
  obtain ⟨n, rfl, -⟩ := DataW.trod_int u3 h
  exact ⟨n, rfl⟩
/-- a text, as its bytes, and its bulk -/
theorem open_s (h : DataW.trod enc Tryd.prog W base spare held fuel 9 cs = some x) : ∃ e : List UInt8, cs = encS e ∧ e.length ≤ Rows.uptoBulk x.1 := by
  obtain ⟨s, rfl, hx, -⟩ := DataW.trod_string Tryd.underlying9 h
  refine ⟨s.data.toList, rfl, ?_⟩
  rw [hx]
  simp only [Rows.uptoBulk]
  omega
set_option maxRecDepth 100000 in
theorem open_nd (h : DataW.trod enc Tryd.prog W base spare held fuel 80 cs = some x) : ∃ e : Nd, cs = e.cells := by
  obtain ⟨n, parts, hl, -, -, hf⟩ := struct_fieldD (l := [(47, 0), (2, 1), (9, 2), (9, 3), (3, 4), (3, 5)]) (by kernel_rfl) (by kernel_rfl) h
  have c0 : Tryd.prog.cellsOf 80 = 6 := by kernel_rfl
  rw [c0] at hl
  match cs, hl with
  | [v0, v1, v2, v3, v4, v5], _ =>
    obtain ⟨_, f0, -⟩ := hf 0 47 0 rfl
    obtain ⟨_, f1, -⟩ := hf 1 2 1 rfl
    obtain ⟨_, f2, -⟩ := hf 2 9 2 rfl
    obtain ⟨_, f3, -⟩ := hf 3 9 3 rfl
    obtain ⟨_, f4, -⟩ := hf 4 3 4 rfl
    obtain ⟨_, f5, -⟩ := hf 5 3 5 rfl
    rw [c1_of (by decide)] at f0 f1 f2 f3 f4 f5
    obtain ⟨n0, e0, -⟩ := DataW.trod_int u47 f0
    obtain ⟨n1, e1, -⟩ := DataW.trod_int u2 f1
    obtain ⟨s2, e2, -⟩ := open_s f2
    obtain ⟨s3, e3, -⟩ := open_s f3
    obtain ⟨n4, e4, -⟩ := DataW.trod_int u3 f4
    obtain ⟨n5, e5, -⟩ := DataW.trod_int u3 f5
    simp [encS] at e0 e1 e2 e3 e4 e5
    subst e0 e1 e2 e3 e4 e5
    exact ⟨⟨n0, n1, s2, s3, n4, n5⟩, rfl⟩
/-- a tree that came in -/
structure TrIn (W : World) (r : Tr) (d : DataW H) : Prop where
  rd : Rd W 6 (.slice r.a r.ns.length r.c) r.ns.length (fl Nd.cells r.ns)
  bk : r.ns.length ≤ Rows.uptoBulk d
set_option maxRecDepth 100000 in
theorem open_tr (h : DataW.trod enc Tryd.prog W base spare held fuel 26 cs = some x) : ∃ e : Tr, cs = e.cells ∧ TrIn W e x.1 := by
  have h1 : ∃ v, cs = [v] := by
    rcases Go.Deep.open_slice Tryd.underlying26 h with ⟨h, _⟩ | ⟨a, l, c, _, _, _, _, h, _⟩ <;> exact ⟨_, h⟩
  obtain ⟨v, rfl⟩ := h1
  obtain ⟨a, xs, c, rfl, h1, -, -, w1⟩ := trod_rowsD (k := 6) (α := Nd) (fun _ _ => True) nd_len (by omega) Tryd.underlying26 (by kernel_rfl) (fun h => by obtain ⟨y, hy⟩ := open_nd h; exact ⟨y, hy, trivial⟩) h
  exact ⟨⟨a, c, xs⟩, rfl, h1, by have := w1.len; show xs.length ≤ _; omega⟩
theorem TrIn.rdy {r : Tr} {d : DataW H} (h : TrIn W r d) (hb : Rows.uptoBulk d ≤ 1048576) : r.Rdy W := ⟨h.rd, by have := h.bk; omega⟩
/-- an item that came in -/
structure ItIn (W : World) (r : It) (d : DataW H) : Prop where
  rd : Rd W 1 (.slice r.ta r.types.length r.tc) r.types.length (fl encS r.types)
  bk : r.types.length ≤ Rows.uptoBulk d
  var : r.var.length ≤ Rows.uptoBulk d
set_option maxRecDepth 100000 in
theorem open_it (h : DataW.trod enc Tryd.prog W base spare held fuel 55 cs = some x) : ∃ e : It, cs = e.cells ∧ ItIn W e x.1 := by
  have t1 : ∃ ts, ((Tryd.prog.fieldsOf 55).toList.map fun f => (f.type, f.offset)) = [(4, 0), (ts, 1), (9, 2), (3, 3), (3, 4)] ∧ Tryd.prog.underlying ts = some (.slice 9) ∧ Tryd.prog.cellsOf ts = 1 := ⟨45, by kernel_rfl, by kernel_rfl, by kernel_rfl⟩
  obtain ⟨ts, tl, tu, tc⟩ := t1
  obtain ⟨n, parts, hl, hx, -, hf⟩ := struct_fieldD (l := [(4, 0), (ts, 1), (9, 2), (3, 3), (3, 4)]) (by kernel_rfl) tl h
  have c0 : Tryd.prog.cellsOf 55 = 5 := by kernel_rfl
  rw [c0] at hl
  match cs, hl with
  | [v0, v1, v2, v3, v4], _ =>
    obtain ⟨_, f0, -⟩ := hf 0 4 0 rfl
    obtain ⟨x1, f1, p1⟩ := hf 1 ts 1 rfl
    obtain ⟨x2, f2, p2⟩ := hf 2 9 2 rfl
    obtain ⟨_, f3, -⟩ := hf 3 3 3 rfl
    obtain ⟨_, f4, -⟩ := hf 4 3 4 rfl
    rw [c1_of (by decide)] at f0 f2 f3 f4
    rw [tc] at f1
    obtain ⟨b0, e0, -⟩ := DataW.trod_bool u4 f0
    obtain ⟨a1, xs1, c1, e1, h1, l1, -, w1⟩ := trod_rowsD (k := 1) (α := List UInt8) (v := v1) (fun _ _ => True) encS_len (by omega) tu (by kernel_rfl) (fun h => by obtain ⟨y, hy, -⟩ := open_s h; exact ⟨y, hy, trivial⟩) f1
    obtain ⟨s2, e2, b2⟩ := open_s f2
    obtain ⟨n3, e3, -⟩ := DataW.trod_int u3 f3
    obtain ⟨n4, e4, -⟩ := DataW.trod_int u3 f4
    simp [encS] at e0 e2 e3 e4
    subst e0 e1 e2 e3 e4
    have k1 := bulk_at p1; have k2 := bulk_at p2; have k3 := w1.len
    refine ⟨⟨b0, a1, c1, xs1, s2, n3, n4⟩, rfl, h1, ?_, ?_⟩
    · rw [hx]
      simp only [Rows.uptoBulk]
      omega
    · rw [hx]
      simp only [Rows.uptoBulk]
      omega
theorem ItIn.rdy {r : It} {d : DataW H} (h : ItIn W r d) (hb : Rows.uptoBulk d ≤ 1048576) : r.Rdy W := ⟨h.rd, by have := h.bk; omega⟩
/-- a match that came in -/
structure MtIn (W : World) (m : Mt) (d : DataW H) : Prop where
  rdy : m.Rdy W
  fit : m.Fit
  cn : m.names.length ≤ m.nc
  cl : m.lens.length ≤ m.lc
  bk : m.names.length ≤ Rows.uptoBulk d ∧ m.lens.length ≤ Rows.uptoBulk d ∧ m.vals.length ≤ Rows.uptoBulk d
set_option maxRecDepth 100000 in
theorem open_mt (h : DataW.trod enc Tryd.prog W base spare held fuel 34 cs = some x) : ∃ e : Mt, cs = e.cells ∧ MtIn W e x.1 := by
  obtain ⟨n, parts, hl, hx, hpl, hf⟩ := struct_fieldD (l := [(2, 0), (30, 1), (31, 2), (32, 3)]) (by kernel_rfl) (by kernel_rfl) h
  have c0 : Tryd.prog.cellsOf 34 = 4 := by kernel_rfl
  rw [c0] at hl
  match cs, hl with
  | [v0, v1, v2, v3], _ =>
    obtain ⟨_, f0, -⟩ := hf 0 2 0 rfl
    obtain ⟨x1, f1, p1⟩ := hf 1 30 1 rfl
    obtain ⟨x2, f2, p2⟩ := hf 2 31 2 rfl
    obtain ⟨x3, f3, p3⟩ := hf 3 32 3 rfl
    rw [c1_of (by decide)] at f0 f1 f2 f3
    obtain ⟨n0, e0, -, k0⟩ := DataW.trod_int u2 f0
    obtain ⟨a1, xs1, c1, e1, h1, l1, q1, w1⟩ := trod_rowsD (k := 2) (α := Nm) (v := v1) (fun y _ => NmFit y) (fun _ => rfl) (by omega) Tryd.underlying30 (by kernel_rfl) (fun h => open_nm h) f1
    obtain ⟨a2, xs2, c2, e2, h2, l2, q2, w2⟩ := trod_rowsD (k := 1) (α := Int) (v := v2) (fun _ _ => True) encN_len (by omega) Tryd.underlying31 (by kernel_rfl) (fun h => by obtain ⟨y, hy⟩ := open_i h; exact ⟨y, hy, trivial⟩) f2
    obtain ⟨a3, xs3, c3, e3, h3, l3, -, w3⟩ := trod_rowsD (k := 2) (α := Vl) (v := v3) (fun y _ => VlFit y) vl_len (by omega) Tryd.underlying32 (by kernel_rfl) (fun h => open_vl h) f3
    simp at e0
    subst e0 e1 e2 e3
    refine ⟨⟨n0, a1, c1, xs1, a2, c2, xs2, a3, c3, xs3⟩, rfl, ⟨h1, h2, h3, l1, l2, l3⟩, ⟨wf_i k0, fun y hy => ?_, fun y hy => ?_⟩, q1, q2, ?_⟩
    · obtain ⟨e, he, -⟩ := w1.mem hy
      exact he
    · obtain ⟨e, he, -⟩ := w3.mem hy
      exact he
    · have b1 := bulk_at p1; have b2 := bulk_at p2; have b3 := bulk_at p3
      have k1 := w1.len; have k2 := w2.len; have k3 := w3.len
      rw [hx]
      simp only [Rows.uptoBulk]
      omega
theorem MtIn.sm {m : Mt} {d : DataW H} (h : MtIn W m d) (hb : Rows.uptoBulk d ≤ 1048576) : m.Sm := ⟨by have := h.bk.1; omega, by have := h.bk.2.1; omega, by have := h.bk.2.2; omega⟩
/-- a query that came in -/
structure QrIn (W : World) (q : Qr) : Prop where
  rdy : q.Rdy W
  its : q.items.length ≤ 1048576
  var : ∀ y ∈ q.items, y.var.length ≤ 1048576
set_option maxRecDepth 100000 in
theorem open_qr (h : DataW.trod enc Tryd.prog W base spare held fuel 29 cs = some x) (hb : Rows.uptoBulk x.1 ≤ 1048576) : ∃ e : Qr, cs = e.cells ∧ QrIn W e := by
  obtain ⟨n, parts, hl, hx, hpl, hf⟩ := struct_fieldD (l := [(23, 0), (24, 1), (25, 2), (26, 3), (2, 4), (9, 5), (27, 6)]) (by kernel_rfl) (by kernel_rfl) h
  have c0 : Tryd.prog.cellsOf 29 = 7 := by kernel_rfl
  rw [c0] at hl
  match cs, hl with
  | [v0, v1, v2, v3, v4, v5, v6], _ =>
    obtain ⟨x0, f0, p0⟩ := hf 0 23 0 rfl
    obtain ⟨_, f1, -⟩ := hf 1 24 1 rfl
    obtain ⟨_, f2, -⟩ := hf 2 25 2 rfl
    obtain ⟨x3, f3, p3⟩ := hf 3 26 3 rfl
    obtain ⟨_, f4, -⟩ := hf 4 2 4 rfl
    obtain ⟨_, f5, -⟩ := hf 5 9 5 rfl
    obtain ⟨x6, f6, p6⟩ := hf 6 27 6 rfl
    rw [c1_of (by decide)] at f0 f1 f2 f3 f4 f5 f6
    obtain ⟨a0, xs0, c0, e0, h0, l0, -, w0⟩ := trod_rowsD (k := 5) (α := It) (v := v0) (ItIn W) it_len (by omega) Tryd.underlying23 (by kernel_rfl) (fun h => open_it h) f0
    obtain ⟨n1, e1, -⟩ := DataW.trod_int u24 f1
    obtain ⟨n2, e2, -⟩ := DataW.trod_int u25 f2
    obtain ⟨t3, e3, ti⟩ := open_tr f3
    obtain ⟨n4, e4, -⟩ := DataW.trod_int u2 f4
    obtain ⟨s5, e5, -⟩ := open_s f5
    obtain ⟨a6, xs6, c6, e6, h6, l6, -, w6⟩ := trod_rowsD (k := 1) (α := Tr) (v := v6) (TrIn W) tr_len (by omega) Tryd.underlying27 (by kernel_rfl) (fun h => open_tr h) f6
    have e3' : v3 = .slice t3.a t3.ns.length t3.c := by simpa [Tr.cells] using e3
    simp [encS] at e1 e2 e4 e5
    subst e0 e1 e2 e3' e4 e5 e6
    have k0 := bulk_at p0; have k3 := bulk_at p3; have k6 := bulk_at p6
    have j0 := w0.len; have j6 := w6.len; have j3 := ti.bk
    rw [hx] at hb
    simp only [Rows.uptoBulk] at hb
    refine ⟨⟨a0, c0, xs0, n1, n2, t3.a, t3.c, t3.ns, n4, s5, a6, c6, xs6⟩, rfl, ⟨h0, fun y hy => ?_, by show xs0.length * 64 ≤ _; omega, ti.rd, by show t3.ns.length * 64 ≤ _; omega, h6, fun y hy => ?_, by show xs6.length * 24 ≤ _; omega⟩, by show xs0.length ≤ _; omega, fun y hy => ?_⟩
    · obtain ⟨e, he, hle, -⟩ := w0.mem hy
      exact he.rdy (by omega)
    · obtain ⟨e, he, hle, -⟩ := w6.mem hy
      exact he.rdy (by omega)
    · obtain ⟨e, he, hle, -⟩ := w0.mem hy
      have := he.var
      omega
end
/-! ### How long a line is -/
theorem nmTxt_len {x : Nm} (h : NmFit x) : (nmTxt x).length ≤ 42 := by
  have h1 := Lib.itoa_length_le x.ts h.1.1 h.1.2
  have h2 := Lib.nDigits_le20 x.id.toNat (by have := h.2.2; omega)
  simp only [nmTxt, List.length_append, List.length_cons, List.length_nil, Lib.decDigits_length]
  omega
theorem nmsTxt_len : ∀ (l : List Nm) (k : Nat), (∀ x ∈ l, NmFit x) → (nmsTxt k l).length ≤ 43 * l.length
  | [], _, _ => by simp [nmsTxt]
  | x :: l, k, h => by
    have h1 := nmTxt_len (h x (by simp))
    have h2 := nmsTxt_len l (k + 1) fun y hy => h y (by simp [hy])
    have h3 : (if 0 < k then [(44 : UInt8)] else []).length ≤ 1 := by split <;> simp
    simp only [nmsTxt, List.length_append, List.length_cons]
    omega
theorem itTxt_len (V N : Nat) : ∀ (its : List It) (ns : List Nm) (ls : List Int), (∀ y ∈ its, y.var.length ≤ V) → (∀ x ∈ ns, NmFit x) → ns.length ≤ N → (itTxt its ns ls).length ≤ its.length * (2 + V + 43 * N)
  | [], _, _, _, _, _ => by simp [itTxt]
  | it :: r, ns, ls, hv, hn, hl => by
    rw [List.length_cons, Nat.succ_mul]
    rw [itTxt]
    split
    · have := itTxt_len V N r ns ls (fun y hy => hv y (by simp [hy])) hn hl
      omega
    · have h1 := itTxt_len V N r (ns.drop (told ns ls)) (ls.drop 1) (fun y hy => hv y (by simp [hy])) (fun x hx => hn x (List.mem_of_mem_drop hx)) (by rw [List.length_drop]; omega)
      have h2 := nmsTxt_len (ns.take (told ns ls)) 0 fun x hx => hn x (List.mem_of_mem_take hx)
      have h3 : (ns.take (told ns ls)).length ≤ N := by rw [List.length_take]; omega
      have h4 := hv it (by simp)
      simp only [List.length_append, List.length_cons, List.length_nil]
      omega
theorem vlTxt_len : ∀ (l : List Vl), (∀ x ∈ l, VlFit x) → (vlTxt l).length ≤ 22 * l.length
  | [], _ => by simp [vlTxt]
  | x :: l, h => by
    have h1 := Lib.itoa_length_le x.n (h x (by simp)).1 (h x (by simp)).2
    have h2 := vlTxt_len l fun y hy => h y (by simp [hy])
    have h3 : (if x.kn = true then [32] ++ Lib.itoa x.n else [32, 63]).length ≤ 22 := by
      split
      · simp only [List.length_append, List.length_cons, List.length_nil]
        omega
      · simp
    simp only [vlTxt, List.length_append, List.length_cons]
    omega
theorem line_len {q : Qr} {m : Mt} (hi : q.items.length ≤ 1048576) (hv : ∀ y ∈ q.items, y.var.length ≤ 1048576) (hf : m.Fit) (hn : m.names.length ≤ 1048576) (hl : m.vals.length ≤ 1048576) : (lineTxt q m).length ≤ 140737488355328 := by
  have h1 := Lib.itoa_length_le m.dec hf.d.1 hf.d.2
  have h2 := itTxt_len 1048576 1048576 q.items m.names m.lens hv hf.n hn
  have h3 := vlTxt_len m.vals hf.v
  have h4 : q.items.length * (2 + 1048576 + 43 * 1048576) ≤ 1048576 * (2 + 1048576 + 43 * 1048576) := Nat.mul_le_mul_right _ hi
  have h5 : (if 0 < m.vals.length then [(32 : UInt8), 45, 62] else []).length ≤ 3 := by split <;> simp
  simp only [lineTxt, tailTxt, List.length_append, List.length_cons, List.length_nil]
  omega
end Go.Proofs.YtngmlmfkegoghaaDoor
