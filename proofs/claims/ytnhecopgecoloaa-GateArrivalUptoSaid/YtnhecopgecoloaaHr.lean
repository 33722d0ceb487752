/- Slices of slices that came in, as the walks read them. Conditions: what the reading says. -/
import Derived.Test.YtnhecopgecoloaaRw
import Derived.Test.YtnhecopgecoloaaHd
namespace Go.Proofs.Ytnhecopgecoloaa
open Sx
open Go.ChangeShapes Go.WideShapes Go.ChangeAt Go.RowKit
section
variable {H : Type} {enc : TypeId × Value → H} {W : World} {base : Nat} {spare : Nat → Bool} {held : Bool} {fuel : Nat} {cs : List Value} {x : DataW H × List MemPlace}
/-- A slice in whatever place: as it is read; its length. -/
theorem trod_rows {α : Type} {en : α → List Value} {k : Nat} {t e : TypeId} {v : Value} (hk : ∀ a, (en a).length = k) (hk0 : 0 < k) (hu : Try.prog.underlying t = some (.slice e)) (hc : Try.prog.cellsOf e = k)
    (hopen : ∀ {fuel : Nat} {cs : List Value} {x : DataW H × List MemPlace}, DataW.trod enc Try.prog W base spare held fuel e cs = some x → ∃ y : α, cs = en y) (h : DataW.trod enc Try.prog W base spare held fuel t [v] = some x) :
    ∃ xs : List α, Rd W k v xs.length (fl en xs) ∧ xs.length ≤ 9223372036854775807 := by
  rcases Go.Deep.open_slice hu h with ⟨hcs, _⟩ | ⟨a', len', cap', m, n, D, Pl, hcs, _, hlc, hcm, hm, _, hcell⟩
  · simp only [List.cons.injEq, and_true] at hcs
    subst hcs
    exact ⟨[], Rd.nil _ _ _ _, by simp⟩
  · simp only [List.cons.injEq, and_true] at hcs
    subst hcs
    have hlm : len' ≤ m := by rw [hm]; split <;> omega
    obtain ⟨xs, hl, hrd⟩ := rd_of (W := W) (base := base) (a := a') (len := len') (cap := cap') hk hk0 fun i hi => by
      obtain ⟨cs', h1, h2⟩ := hcell i (by omega)
      obtain ⟨y, rfl⟩ := hopen h2
      rw [hc] at h1
      exact ⟨y, h1⟩
    simp only [maxLen] at hcm
    exact ⟨xs, by rw [hl] at hrd ⊢; exact hrd, by omega⟩
/-- the list of an epoch -/
def EpIn (W : World) (e : Ep) : Prop := ∃ evs : List Ev, Rd W 11 e.sl evs.length (fl Ev.cells evs) ∧ evs.length ≤ 9223372036854775807
set_option maxRecDepth 100000 in
theorem open_ep (h : DataW.trod enc Try.prog W base spare held fuel 38 cs = some x) : ∃ e : { e : Ep // EpIn W e }, cs = e.1.cells := by
  obtain ⟨n, hl, hf⟩ := struct_field (l := [(32, 0), (2, 1)]) (by kernel_rfl) (by kernel_rfl) h
  have c2 : Try.prog.cellsOf 2 = 1 := by kernel_rfl
  have c32 : Try.prog.cellsOf 32 = 1 := by kernel_rfl
  have c38 : Try.prog.cellsOf 38 = 2 := by kernel_rfl
  have u2 : Try.prog.underlying 2 = some (.int .i64) := by kernel_rfl
  rw [c38] at hl
  match cs, hl with
  | [v0, v1], _ =>
    obtain ⟨_, f0⟩ := hf 0 32 0 rfl
    obtain ⟨_, f1⟩ := hf 1 2 1 rfl
    rw [c32] at f0
    rw [c2] at f1
    obtain ⟨n1, e1, _⟩ := DataW.trod_int u2 f1
    obtain ⟨evs, h1, h2⟩ := trod_rows (α := Ev) (v := v0) ev_len (by omega) Try.underlying32 (by kernel_rfl) (fun h => open_ev h) f0
    simp at e1
    subst e1
    exact ⟨⟨⟨v0, n1⟩, evs, h1, h2⟩, rfl⟩
theorem fl_val {α : Type} {p : α → Prop} {en : α → List Value} (xs : List { e : α // p e }) : fl (fun e : { e : α // p e } => en e.1) xs = fl en (xs.map (·.1)) := by
  induction xs with
  | nil => rfl
  | cons x xs ih => rw [fl_cons, ih, List.map_cons, fl_cons]
/-- the epochs that came in -/
theorem open_eps {v : Value} {d : DataW H} {ps : List MemPlace} (hok : ∃ a len cap, v = .slice a len cap) (h : DataW.Trod enc Try.prog W base spare held 36 v d ps) :
    ∃ eps : List Ep, Rd W 2 v eps.length (fl Ep.cells eps) ∧ (∀ e ∈ eps, EpIn W e) ∧ eps.length ≤ 9223372036854775807 := by
  obtain ⟨a, len, cap, rfl⟩ := hok
  obtain ⟨fuel, hf⟩ := h
  have hf' : DataW.trod enc Try.prog W base spare held fuel 36 [.slice a len cap] = some (d, ps) := hf
  obtain ⟨xs, h1, h2⟩ := trod_rows (α := { e : Ep // EpIn W e }) (en := fun e => e.1.cells) (fun a => ep_len a.1) (by omega) Try.underlying36 (by kernel_rfl) (fun h => open_ep h) hf'
  rw [fl_val xs] at h1
  refine ⟨xs.map (·.1), by rw [List.length_map]; exact h1, fun e he => ?_, by rw [List.length_map]; exact h2⟩
  obtain ⟨y, _, rfl⟩ := List.mem_map.1 he
  exact y.2
end
end Go.Proofs.Ytnhecopgecoloaa
