/- Scripts that came in, as the walks read them. Conditions: what the reading says. -/
import Derived.Test.YtpnigekkbmanlaaMw
import Derived.Test.YtpnigekkbmanlaaOp
namespace Go.Proofs.Ytpnigekkbmanlaa
open Sx
open Go.ChangeShapes Go.WideShapes Go.ChangeAt Go.RowKit
section
variable {H : Type} {enc : TypeId × Value → H} {W : World} {base : Nat} {spare : Nat → Bool} {held : Bool} {fuel : Nat} {cs : List Value} {x : DataW H × List MemPlace}
structure OpIn (W : World) (x : Op7) (d : DataW H) : Prop where
  rdy : (∀ n ∈ d.weights Try.prog 55, n ≤ reachBytes) → x.wt.Rdy W
set_option maxRecDepth 100000 in
theorem open_op7 (h : DataW.trod enc Try.prog W base spare held fuel 55 cs = some x) : ∃ e : Op7, cs = e.cells ∧ OpIn W e x.1 := by
  obtain ⟨n, parts, hl, hx, hpl, hf⟩ := struct_fieldD (l := [(3, 0), (40, 1), (2, 6)]) (by kernel_rfl) (by kernel_rfl) h
  have c3 : Try.prog.cellsOf 3 = 1 := by kernel_rfl
  have c40 : Try.prog.cellsOf 40 = 5 := by kernel_rfl
  have c2 : Try.prog.cellsOf 2 = 1 := by kernel_rfl
  have c0 : Try.prog.cellsOf 55 = 7 := by kernel_rfl
  have u3 : Try.prog.underlying 3 = some (.int .i64) := by kernel_rfl
  have u2 : Try.prog.underlying 2 = some (.int .i64) := by kernel_rfl
  have u55 : Try.prog.underlying 55 = some (.struct (Try.prog.fieldsOf 55)) := by kernel_rfl
  have ty : (Try.prog.fieldsOf 55).toList.map (·.type) = [3, 40, 2] := by kernel_rfl
  rw [c0] at hl
  match cs, hl with
  | [v0, v1, v2, v3, v4, v5, v6], _ =>
    obtain ⟨_, f0, -⟩ := hf 0 3 0 rfl
    obtain ⟨x1, f1, p1⟩ := hf 1 40 1 rfl
    obtain ⟨_, f2, -⟩ := hf 2 2 6 rfl
    rw [c3] at f0
    rw [c40] at f1
    rw [c2] at f2
    obtain ⟨n0, e0, _⟩ := DataW.trod_int u3 f0
    obtain ⟨n2, e2, _⟩ := DataW.trod_int u2 f2
    obtain ⟨m, hm, mi⟩ := open_wt f1
    have hm' : [v1, v2, v3, v4, v5] = m.cells := hm
    simp only [Wt.cells, List.cons.injEq, and_true] at hm'
    obtain ⟨rfl, rfl, rfl, rfl, rfl⟩ := hm'
    simp at e0 e2
    subst e0 e2
    refine ⟨⟨n0, m, n2⟩, rfl, ⟨fun hw => ?_⟩⟩
    rw [hx] at hw
    exact mi.rdy fun n hn => hw n (weights_part u55 (by rw [ty]; rfl) p1 hn)
theorem open_ops {v : Value} {ts : List TypeId} {ds : List (DataW H)} {j : Nat} {d : DataW H} {ps : List MemPlace} (hok : ∃ a len cap, v = .slice a len cap) (hsz : (DataW.weightsEach Try.prog ts ds).all (· ≤ reachBytes) = true) (ht : ts[j]? = some 53) (hd : ds[j]? = some d) (h : DataW.Trod enc Try.prog W base spare held 53 v d ps) :
    ∃ a xs c, v = .slice a xs.length c ∧ (Rd W 7 (.slice a xs.length c) xs.length (fl Op7.cells xs) ∧ ∀ o ∈ xs, o.wt.Rdy W) ∧ xs.length * 104 ≤ 140737488351232 := by
  obtain ⟨a, len, cap, rfl⟩ := hok
  obtain ⟨fuel, hf⟩ := h
  have y55 : Try.prog.bytesOf 55 = 120 := by kernel_rfl
  have hf' : DataW.trod enc Try.prog W base spare held fuel 53 [.slice a len cap] = some (d, ps) := hf
  obtain ⟨a, xs, c, he, h1, -, -, w1⟩ := trod_rowsD (k := 7) (α := Op7) (OpIn W) op7_len (by omega) Try.underlying53 (by kernel_rfl) (fun h => open_op7 h) hf'
  have hw : ∀ n ∈ d.weights Try.prog 53, n ≤ reachBytes := fun n hn => of_decide_eq_true (List.all_eq_true.1 hsz _ (DataW.weights_mem_each ht hd n hn))
  have q := w1.weight Try.underlying53 hw
  rw [y55] at q
  rw [he] at h1
  refine ⟨a, xs, c, he, ⟨h1, fun y hy => ?_⟩, by omega⟩
  obtain ⟨d2, hd2, -, ds, sp, hds, hmem⟩ := w1.mem hy
  simp only at hds
  exact hd2.rdy fun n hn => hw n (by rw [hds]; exact weights_mem Try.underlying53 hmem hn)
end
end Go.Proofs.Ytpnigekkbmanlaa
