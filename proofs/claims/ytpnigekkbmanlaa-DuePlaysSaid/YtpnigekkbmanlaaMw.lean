/- What waits that came in, as the walks read it. Conditions: what the reading says. -/
import Derived.Test.YtpnigekkbmanlaaMo
import Derived.Test.YtpnigekkbmanlaaLw
namespace Go.Proofs.Ytpnigekkbmanlaa
open Sx
open Go.ChangeShapes Go.WideShapes Go.ChangeAt Go.RowKit
section
variable {H : Type} {enc : TypeId × Value → H} {W : World} {base : Nat} {spare : Nat → Bool} {held : Bool} {fuel : Nat} {cs : List Value} {x : DataW H × List MemPlace}
structure ElIn (W : World) (r : El) (d : DataW H) : Prop where
  rd : Rd W 11 (.slice r.a r.evs.length r.c) r.evs.length (fl Ev.cells r.evs)
  wt : (∀ n ∈ d.weights Try.prog 86, n ≤ reachBytes) → r.evs.length * 88 ≤ 140737488351232
set_option maxRecDepth 100000 in
theorem open_el (h : DataW.trod enc Try.prog W base spare held fuel 86 cs = some x) : ∃ e : El, cs = e.cells ∧ ElIn W e x.1 := by
  have h1 : ∃ v, cs = [v] := by
    rcases Go.Deep.open_slice Try.underlying86 h with ⟨h, _⟩ | ⟨a, l, c, _, _, _, _, h, _⟩ <;> exact ⟨_, h⟩
  obtain ⟨v, rfl⟩ := h1
  have y89 : Try.prog.bytesOf 89 = 88 := by kernel_rfl
  obtain ⟨a, xs, c, rfl, h1, -, -, w1⟩ := trod_rowsD (k := 11) (α := Ev) (fun _ _ => True) (fun _ => rfl) (by omega) Try.underlying86 (by kernel_rfl) (fun h => by obtain ⟨y, hy⟩ := open_ev h; exact ⟨y, hy, trivial⟩) h
  refine ⟨⟨a, c, xs⟩, rfl, h1, fun hw => ?_⟩
  have := w1.weight Try.underlying86 hw
  rwa [y89] at this
/-- what waits that came in -/
structure WtIn (W : World) (x : Wt) (d : DataW H) : Prop where
  rdy : (∀ n ∈ d.weights Try.prog 40, n ≤ reachBytes) → x.Rdy W
set_option maxRecDepth 100000 in
theorem open_wt (h : DataW.trod enc Try.prog W base spare held fuel 40 cs = some x) : ∃ e : Wt, cs = e.cells ∧ WtIn W e x.1 := by
  obtain ⟨n, parts, hl, hx, hpl, hf⟩ := struct_fieldD (l := [(29, 0), (38, 4)]) (by kernel_rfl) (by kernel_rfl) h
  have c29 : Try.prog.cellsOf 29 = 4 := by kernel_rfl
  have c38 : Try.prog.cellsOf 38 = 1 := by kernel_rfl
  have c0 : Try.prog.cellsOf 40 = 5 := by kernel_rfl
  have u40 : Try.prog.underlying 40 = some (.struct (Try.prog.fieldsOf 40)) := by kernel_rfl
  have y86 : Try.prog.bytesOf 86 = 24 := by kernel_rfl
  have ty : (Try.prog.fieldsOf 40).toList.map (·.type) = [29, 38] := by kernel_rfl
  rw [c0] at hl
  match cs, hl with
  | [v0, v1, v2, v3, v4], _ =>
    obtain ⟨x1, f1, p1⟩ := hf 0 29 0 rfl
    obtain ⟨x2, f2, p2⟩ := hf 1 38 4 rfl
    rw [c29] at f1
    rw [c38] at f2
    obtain ⟨m, hm, mi⟩ := open_mt f1
    obtain ⟨a2, xs2, c2, e2, h2, l2, -, w2⟩ := trod_rowsD (k := 1) (α := El) (v := v4) (ElIn W) el_len (by omega) Try.underlying38 (by kernel_rfl) (fun h => open_el h) f2
    have hm' : [v0, v1, v2, v3] = m.cells := hm
    simp only [Mt.cells, List.cons.injEq, and_true] at hm'
    obtain ⟨rfl, rfl, rfl, rfl⟩ := hm'
    subst e2
    refine ⟨⟨m, a2, c2, xs2⟩, rfl, ⟨fun hw => ?_⟩⟩
    rw [hx] at hw
    have q1 := mi.wt fun n hn => hw n (weights_part u40 (by rw [ty]; rfl) p1 hn)
    have hw2 : ∀ n ∈ x2.1.weights Try.prog 38, n ≤ reachBytes := fun n hn => hw n (weights_part u40 (by rw [ty]; rfl) p2 hn)
    have q2 := w2.weight Try.underlying38 hw2
    rw [y86] at q2
    refine ⟨mi.rdy, h2, fun e he => ?_, q1, q2⟩
    obtain ⟨d, hd, -, ds, sp, hds, hmem⟩ := w2.mem he
    exact ⟨hd.rd, hd.wt fun n hn => hw2 n (by rw [hds]; exact weights_mem Try.underlying38 hmem hn)⟩
/-- a list of what waits that came in -/
theorem open_wts {v : Value} {ts : List TypeId} {ds : List (DataW H)} {j : Nat} {d : DataW H} {ps : List MemPlace} (hok : ∃ a len cap, v = .slice a len cap) (hsz : (DataW.weightsEach Try.prog ts ds).all (· ≤ reachBytes) = true) (ht : ts[j]? = some 43) (hd : ds[j]? = some d) (h : DataW.Trod enc Try.prog W base spare held 43 v d ps) :
    ∃ a xs c, v = .slice a xs.length c ∧ RL W (.slice a xs.length c) xs ∧ xs.length * 104 ≤ 140737488351232 := by
  obtain ⟨a, len, cap, rfl⟩ := hok
  obtain ⟨fuel, hf⟩ := h
  have y40 : Try.prog.bytesOf 40 = 104 := by kernel_rfl
  have hf' : DataW.trod enc Try.prog W base spare held fuel 43 [.slice a len cap] = some (d, ps) := hf
  obtain ⟨a, xs, c, he, h1, -, -, w1⟩ := trod_rowsD (k := 5) (α := Wt) (WtIn W) wt_len (by omega) Try.underlying43 (by kernel_rfl) (fun h => open_wt h) hf'
  have hw : ∀ n ∈ d.weights Try.prog 43, n ≤ reachBytes := fun n hn => of_decide_eq_true (List.all_eq_true.1 hsz _ (DataW.weights_mem_each ht hd n hn))
  have q := w1.weight Try.underlying43 hw
  rw [y40] at q
  rw [he] at h1
  refine ⟨a, xs, c, he, ⟨h1, fun y hy => ?_⟩, q⟩
  obtain ⟨d2, hd2, -, ds, sp, hds, hmem⟩ := w1.mem hy
  simp only at hds
  exact hd2.rdy fun n hn => hw n (by rw [hds]; exact weights_mem Try.underlying43 hmem hn)
end
end Go.Proofs.Ytpnigekkbmanlaa
