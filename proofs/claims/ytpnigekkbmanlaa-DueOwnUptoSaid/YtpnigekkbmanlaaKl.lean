/- What waits that came in, with how much it is. Conditions: what the reading says. -/
import Derived.Test.YtpnigekkbmanlaaMo
import Derived.Test.YtpnigekkbmanlaaKk
namespace Go.Proofs.Ytpnigekkbmanlaa
open Sx
open Go.ChangeShapes Go.WideShapes Go.ChangeAt Go.RowKit
section
variable {H : Type} {enc : TypeId × Value → H} {W : World} {base : Nat} {spare : Nat → Bool} {held : Bool} {fuel : Nat} {cs : List Value} {x : DataW H × List MemPlace}
structure ElB (W : World) (r : El) (d : DataW H) : Prop where
  rd : Rd W 11 (.slice r.a r.evs.length r.c) r.evs.length (fl Ev.cells r.evs)
  bk : r.evs.length ≤ Rows.uptoBulk d
set_option maxRecDepth 100000 in
theorem open_elB (h : DataW.trod enc Try.prog W base spare held fuel 86 cs = some x) : ∃ e : El, cs = e.cells ∧ ElB W e x.1 := by
  have h1 : ∃ v, cs = [v] := by
    rcases Go.Deep.open_slice Try.underlying86 h with ⟨h, _⟩ | ⟨a, l, c, _, _, _, _, h, _⟩ <;> exact ⟨_, h⟩
  obtain ⟨v, rfl⟩ := h1
  obtain ⟨a, xs, c, rfl, h1, -, -, w1⟩ := trod_rowsD (k := 11) (α := Ev) (fun _ _ => True) (fun _ => rfl) (by omega) Try.underlying86 (by kernel_rfl) (fun h => by obtain ⟨y, hy⟩ := open_ev h; exact ⟨y, hy, trivial⟩) h
  exact ⟨⟨a, c, xs⟩, rfl, h1, by have := w1.len; show xs.length ≤ _; omega⟩
structure WtB (W : World) (x : Wt) (d : DataW H) : Prop where
  rdy : Rows.uptoBulk d ≤ 1048576 → x.Rdy W
  lo : Rows.uptoBulk d ≤ 1048576 → x.Lo
  two : 2 ≤ Rows.uptoBulk d
set_option maxRecDepth 100000 in
theorem open_wtB (h : DataW.trod enc Try.prog W base spare held fuel 40 cs = some x) : ∃ e : Wt, cs = e.cells ∧ WtB W e x.1 := by
  obtain ⟨n, parts, hl, hx, hpl, hf⟩ := struct_fieldD (l := [(29, 0), (38, 4)]) (by kernel_rfl) (by kernel_rfl) h
  have c29 : Try.prog.cellsOf 29 = 4 := by kernel_rfl
  have c38 : Try.prog.cellsOf 38 = 1 := by kernel_rfl
  have c0 : Try.prog.cellsOf 40 = 5 := by kernel_rfl
  rw [c0] at hl
  match cs, hl with
  | [v0, v1, v2, v3, v4], _ =>
    obtain ⟨x1, f1, p1⟩ := hf 0 29 0 rfl
    obtain ⟨x2, f2, p2⟩ := hf 1 38 4 rfl
    rw [c29] at f1
    rw [c38] at f2
    obtain ⟨m, hm, mi⟩ := open_mt f1
    obtain ⟨a2, xs2, c2, e2, h2, l2, -, w2⟩ := trod_rowsD (k := 1) (α := El) (v := v4) (ElB W) el_len (by omega) Try.underlying38 (by kernel_rfl) (fun h => open_elB h) f2
    have hm' : [v0, v1, v2, v3] = m.cells := hm
    simp only [Mt.cells, List.cons.injEq, and_true] at hm'
    obtain ⟨rfl, rfl, rfl, rfl⟩ := hm'
    subst e2
    have b1 := bulk_at p1; have b2 := bulk_at p2
    have k2 := w2.len
    obtain ⟨q1, q2, q3⟩ := mi.bk
    have q4 := bulk_pos x1.1
    have hb : Rows.uptoBulk x.1 = Rows.uptoBulkAll parts + 1 := by rw [hx]; simp [Rows.uptoBulk]
    have hev : Rows.uptoBulk x.1 ≤ 1048576 → ∀ e ∈ xs2, e.evs.length ≤ 1048576 := fun hs e he => by
      obtain ⟨d, hd, hle, -⟩ := w2.mem he
      have := hd.bk
      omega
    refine ⟨⟨m, a2, c2, xs2⟩, rfl, fun hs => ?_, fun hs => ?_, by omega⟩
    · refine ⟨mi.rdy, h2, fun e he => ?_, ⟨by show m.names.length * 16 ≤ _; omega, by show m.lens.length * 8 ≤ _; omega, by show m.vals.length * 16 ≤ _; omega⟩, by show xs2.length * 24 ≤ _; omega⟩
      obtain ⟨d, hd, -⟩ := w2.mem he
      have := hev hs e he
      exact ⟨hd.rd, by omega⟩
    · exact ⟨by show m.names.length ≤ _; omega, by show m.lens.length ≤ _; omega, by show m.vals.length ≤ _; omega, by show xs2.length ≤ _; omega, hev hs⟩
theorem sum_two {α : Type} : ∀ xs : List α, (xs.map fun _ => 2).sum = 2 * xs.length
  | [] => rfl
  | _ :: xs => by rw [List.map_cons, List.sum_cons, sum_two xs, List.length_cons]; omega
/-- a list of what waits that came in, of so little bulk -/
theorem open_wtsB {v : Value} {d : DataW H} {ps : List MemPlace} (hok : ∃ a len cap, v = .slice a len cap) (h : DataW.Trod enc Try.prog W base spare held 43 v d ps) (hb : Rows.uptoBulk d ≤ 1048576) :
    ∃ xs : List Wt, RL W v xs ∧ (∀ x ∈ xs, x.Lo) ∧ xs.length ≤ 524288 := by
  obtain ⟨a, len, cap, rfl⟩ := hok
  obtain ⟨fuel, hf⟩ := h
  have hf' : DataW.trod enc Try.prog W base spare held fuel 43 [.slice a len cap] = some (d, ps) := hf
  obtain ⟨a, xs, c, he, h1, -, -, w1⟩ := trod_rowsD (k := 5) (α := Wt) (WtB W) wt_len (by omega) Try.underlying43 (by kernel_rfl) (fun h => open_wtB h) hf'
  have hlen := w1.bulk (fun _ => 2) fun y e hy => hy.two
  rw [sum_two] at hlen
  simp only at hlen
  refine ⟨xs, ⟨h1, fun y hy => ?_⟩, fun y hy => ?_, by omega⟩
  · obtain ⟨e, hd, hle, -⟩ := w1.mem hy
    simp only at hle
    exact hd.rdy (by omega)
  · obtain ⟨e, hd, hle, -⟩ := w1.mem hy
    simp only at hle
    exact hd.lo (by omega)
end
end Go.Proofs.Ytpnigekkbmanlaa
