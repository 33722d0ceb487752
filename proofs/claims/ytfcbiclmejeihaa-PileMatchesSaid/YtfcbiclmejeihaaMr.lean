/- Matches that came in, as the walks read them. Conditions: what the reading says. -/
import Derived.Test.YtfcbiclmejeihaaRw
import Derived.Test.YtfcbiclmejeihaaMt
namespace Go.Proofs.Ytfcbiclmejeihaa
open Sx
open Go.ChangeShapes Go.WideShapes Go.ChangeAt Go.RowKit
section
variable {H : Type} {enc : TypeId × Value → H} {W : World} {base : Nat} {spare : Nat → Bool} {held : Bool} {fuel : Nat} {cs : List Value} {x : DataW H × List MemPlace}
/-- A slice in whatever place: as it is read; its length. -/
theorem trod_rows {α : Type} {en : α → List Value} {k : Nat} {t e : TypeId} {v : Value} (hk : ∀ a, (en a).length = k) (hk0 : 0 < k) (hu : Try.prog.underlying t = some (.slice e)) (hc : Try.prog.cellsOf e = k)
    (hopen : ∀ {fuel : Nat} {cs : List Value} {x : DataW H × List MemPlace}, DataW.trod enc Try.prog W base spare held fuel e cs = some x → ∃ y : α, cs = en y) (h : DataW.trod enc Try.prog W base spare held fuel t [v] = some x) :
    ∃ (a : Option Addr) (xs : List α) (c : Nat), v = .slice a xs.length c ∧ Rd W k v xs.length (fl en xs) ∧ xs.length ≤ 9223372036854775807 ∧ xs.length ≤ c := by
  rcases Go.Deep.open_slice hu h with ⟨hcs, _⟩ | ⟨a', len', cap', m, n, D, Pl, hcs, _, hlc, hcm, hm, _, hcell⟩
  · simp only [List.cons.injEq, and_true] at hcs
    subst hcs
    exact ⟨none, [], 0, rfl, Rd.nil _ _ _ _, by simp, by simp⟩
  · simp only [List.cons.injEq, and_true] at hcs
    subst hcs
    have hlm : len' ≤ m := by rw [hm]; split <;> omega
    obtain ⟨xs, hl, hrd⟩ := rd_of (W := W) (base := base) (a := a') (len := len') (cap := cap') hk hk0 fun i hi => by
      obtain ⟨cs', h1, h2⟩ := hcell i (by omega)
      obtain ⟨y, rfl⟩ := hopen h2
      rw [hc] at h1
      exact ⟨y, h1⟩
    simp only [maxLen] at hcm
    exact ⟨some a', xs, cap', by rw [hl], by rw [hl] at hrd ⊢; exact hrd, by omega, by omega⟩
set_option maxRecDepth 100000 in
theorem open_vl (h : DataW.trod enc Try.prog W base spare held fuel 92 cs = some x) : ∃ e : Vl, cs = e.cells := by
  obtain ⟨n, hl, hf⟩ := struct_field (l := [(4, 0), (2, 1)]) (by kernel_rfl) (by kernel_rfl) h
  have c2 : Try.prog.cellsOf 2 = 1 := by kernel_rfl
  have c4 : Try.prog.cellsOf 4 = 1 := by kernel_rfl
  have c0 : Try.prog.cellsOf 92 = 2 := by kernel_rfl
  have u2 : Try.prog.underlying 2 = some (.int .i64) := by kernel_rfl
  have u4 : Try.prog.underlying 4 = some .bool := by kernel_rfl
  rw [c0] at hl
  match cs, hl with
  | [v0, v1], _ =>
    obtain ⟨_, f0⟩ := hf 0 4 0 rfl
    obtain ⟨_, f1⟩ := hf 1 2 1 rfl
    rw [c4] at f0
    rw [c2] at f1
    obtain ⟨b0, e0, _⟩ := DataW.trod_bool u4 f0
    obtain ⟨n1, e1, _⟩ := DataW.trod_int u2 f1
    simp at e0 e1
    subst e0 e1
    exact ⟨⟨b0, n1⟩, rfl⟩
set_option maxRecDepth 100000 in
theorem open_mt (h : DataW.trod enc Try.prog W base spare held fuel 47 cs = some x) : ∃ e : { e : Mt // e.Rdy W }, cs = e.1.cells := by
  obtain ⟨n, hl, hf⟩ := struct_field (l := [(2, 0), (43, 1), (44, 2), (45, 3)]) (by kernel_rfl) (by kernel_rfl) h
  have c2 : Try.prog.cellsOf 2 = 1 := by kernel_rfl
  have c3 : Try.prog.cellsOf 43 = 1 := by kernel_rfl
  have c4 : Try.prog.cellsOf 44 = 1 := by kernel_rfl
  have c5 : Try.prog.cellsOf 45 = 1 := by kernel_rfl
  have c0 : Try.prog.cellsOf 47 = 4 := by kernel_rfl
  have u2 : Try.prog.underlying 2 = some (.int .i64) := by kernel_rfl
  rw [c0] at hl
  match cs, hl with
  | [v0, v1, v2, v3], _ =>
    obtain ⟨_, f0⟩ := hf 0 2 0 rfl
    obtain ⟨_, f1⟩ := hf 1 43 1 rfl
    obtain ⟨_, f2⟩ := hf 2 44 2 rfl
    obtain ⟨_, f3⟩ := hf 3 45 3 rfl
    rw [c2] at f0
    rw [c3] at f1
    rw [c4] at f2
    rw [c5] at f3
    obtain ⟨n0, e0, _⟩ := DataW.trod_int u2 f0
    obtain ⟨a1, xs1, c1, e1, h1, l1, -⟩ := trod_rows (k := 2) (α := Nm) (v := v1) (fun _ => rfl) (by omega) Try.underlying43 (by kernel_rfl) (fun h => open_nm h) f1
    obtain ⟨a2, xs2, c2, e2, h2, l2, -⟩ := trod_rows (α := Int) (v := v2) encN_len (by omega) Try.underlying44 (by kernel_rfl) (fun h => open_i h) f2
    obtain ⟨a3, xs3, c3, e3, h3, l3, -⟩ := trod_rows (α := Vl) (v := v3) vl_len (by omega) Try.underlying45 (by kernel_rfl) (fun h => open_vl h) f3
    simp at e0
    subst e0 e1 e2 e3
    exact ⟨⟨⟨n0, a1, c1, xs1, a2, c2, xs2, a3, c3, xs3⟩, h1, h2, h3, l1, l2, l3⟩, rfl⟩
theorem fl_val {α : Type} {p : α → Prop} {en : α → List Value} (xs : List { e : α // p e }) : fl (fun e : { e : α // p e } => en e.1) xs = fl en (xs.map (·.1)) := by
  induction xs with
  | nil => rfl
  | cons x xs ih => rw [fl_cons, ih, List.map_cons, fl_cons]
/-- A list of matches that came in: as it is read; how long it is. -/
theorem open_mts {t : TypeId} {v : Value} {ts : List TypeId} {ds : List (DataW H)} {j : Nat} {d : DataW H} {ps : List MemPlace} (hu : Try.prog.underlying t = some (.slice 47)) (hok : ∃ a len cap, v = .slice a len cap) (hsz : (DataW.weightsEach Try.prog ts ds).all (· ≤ reachBytes) = true) (ht : ts[j]? = some t) (hd : ds[j]? = some d) (h : DataW.Trod enc Try.prog W base spare held t v d ps) :
    ∃ xs : List Mt, Rd W 4 v xs.length (fl Mt.cells xs) ∧ (∀ y ∈ xs, y.Rdy W) ∧ xs.length * Try.prog.bytesOf 47 ≤ 140737488351232 := by
  obtain ⟨xs, h1, h2⟩ := open_rows (k := 4) (α := { e : Mt // e.Rdy W }) (en := fun e => e.1.cells) (fun a => mt_len a.1) (by omega) hu (by kernel_rfl) (fun h => open_mt h) hok hsz ht hd h
  rw [fl_val xs] at h1
  refine ⟨xs.map (·.1), by rw [List.length_map]; exact h1, fun e he => ?_, by rw [List.length_map]; exact h2⟩
  obtain ⟨y, _, rfl⟩ := List.mem_map.1 he
  exact y.2
end
end Go.Proofs.Ytfcbiclmejeihaa
