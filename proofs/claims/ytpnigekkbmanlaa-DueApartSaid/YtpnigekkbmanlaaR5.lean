/- DueApart: at every input it returns true, and what it was handed reads as it did. No conditions. -/
import Derived.Test.YtpnigekkbmanlaaMw
import Derived.Test.YtpnigekkbmanlaaD5
namespace Go.Proofs.Ytpnigekkbmanlaa.row5
open Sx
open Go.ChangeShapes Go.WideShapes Go.ChangeAt Go.RowKit

set_option maxRecDepth 100000 in
theorem lifted (os : Os) (started : os.Started) (H : Type) (enc : TypeId × Value → H) :
    ReturnsInHanded {} Try.checked os 5 .any (Rows.dueApartSpec.pre6 enc Try.prog Try.f5 Rows.dueApartRow.domain false) (Rows.dueApartSpec.post enc Try.prog Try.f5 false true false false) := by
  refine returnsInHanded_of_change_sized (C := Try.checked) own started (by kernel_rfl) Try.func5
    (ChangeSpec.witness6 (enc := enc) (C := Try.checked) false ⟨#[], #[.agg Wt.zero.cells.toArray, .slice none 0 0, .slice none 0 0], []⟩ 8 (by kernel_rfl) (by kernel_rfl) (by kernel_rfl) (by kernel_rfl)) ?_
  intro W base args ds gs before hval0 hW hcnd hsz0 _
  have hsz : (DataW.weightsEach Try.prog (Try.f5.params.toList ++ Rows.dueApartSpec.plain.varTypes Try.prog) (ds ++ gs)).all (· ≤ reachBytes) = true := hsz0
  clear hsz0
  have hval : ∀ (j : Nat) t v, Try.f5.params[j]? = some t → args[j]? = some v → Value.okWide Try.prog W .any base t v := hval0
  have hW' := hW
  obtain ⟨p, q, hA0, hV, rfl, hfz, hnd⟩ := hW
  have hA : DataW.TrodAll enc Try.prog W 0 (fun _ => true) true Try.f5.params.toList args.toList ds p := hA0
  rw [Try.params5] at hA hval hsz
  obtain ⟨v0, vs0, d0, ds0, p0, q0, hargs, rfl, rfl, h0, r0⟩ := trodAll_cons hA
  obtain ⟨v1, vs1, d1, ds1, p1, q1, rfl, rfl, rfl, h1, r1⟩ := trodAll_cons r0
  obtain ⟨v2, vs2, d2, ds2, p2, q2, rfl, rfl, rfl, h2, r2⟩ := trodAll_cons r1
  obtain ⟨rfl, rfl, rfl⟩ := trodAll_nil r2
  obtain rfl : args = #[v0, v1, v2] := by cases args; simp_all
  obtain ⟨rfl, rfl⟩ := trodVars_none hV
  have k0 := h0
  have lt0 : ∀ x ∈ p0, x.block < W.heap.size := by obtain ⟨m, hm⟩ := k0; exact DataW.trod_lt m _ _ _ hm
  have k1 := h1
  have lt1 : ∀ x ∈ p1, x.block < W.heap.size := by obtain ⟨m, hm⟩ := k1; exact DataW.trod_lt m _ _ _ hm
  have k2 := h2
  have lt2 : ∀ x ∈ p2, x.block < W.heap.size := by obtain ⟨m, hm⟩ := k2; exact DataW.trod_lt m _ _ _ hm
  obtain ⟨cs0, hv0, -⟩ := okWide_struct Try.underlying40 (hval 0 40 v0 rfl rfl)
  subst hv0
  obtain ⟨m0, hm0⟩ := h0
  obtain ⟨x0, hx0, hi0⟩ := open_wt hm0
  obtain rfl : cs0 = x0.cells.toArray := by
    have h' : cs0.toList = x0.cells := hx0
    rw [← h']
  have hR0 : x0.Rdy W := hi0.rdy fun n hn => of_decide_eq_true (List.all_eq_true.1 hsz _ (DataW.weights_mem_each (j := 0) rfl rfl n hn))
  have hb1 : Try.prog.bytesOf 70 = 16 := by kernel_rfl
  obtain ⟨xs1, hrd1, hw1⟩ := open_rows vl_len (by omega) Try.underlying27 (by kernel_rfl) (fun h => open_vl h) (okWide_slice Try.underlying27 (hval 1 27 v1 rfl rfl)) hsz (j := 1) rfl rfl h1
  rw [hb1] at hw1
  obtain ⟨va, vc, rfl⟩ := hrd1.slice
  obtain ⟨a2, l2, c2, hv2⟩ := okWide_slice Try.underlying38 (hval 2 38 v2 rfl rfl)
  subst hv2
  obtain ⟨m2, hm2⟩ := h2
  have hm2' : DataW.trod enc Try.prog W 0 (fun _ => true) true m2 38 [.slice a2 l2 c2] = some (d2, p2) := hm2
  obtain ⟨ba, bs, bc, hbe, hbr, -, -, hbE⟩ := trod_rowsD (k := 1) (α := El) (ElIn W) el_len (by omega) Try.underlying38 (by kernel_rfl) (fun h => open_el h) hm2'
  simp only [Value.slice.injEq] at hbe
  obtain ⟨rfl, rfl, rfl⟩ := hbe
  have hwb : ∀ n ∈ d2.weights Try.prog 38, n ≤ reachBytes := fun n hn => of_decide_eq_true (List.all_eq_true.1 hsz _ (DataW.weights_mem_each (j := 2) rfl rfl n hn))
  have y86 : Try.prog.bytesOf 86 = 24 := by kernel_rfl
  have hbs := hbE.weight Try.underlying38 hwb
  rw [y86] at hbs
  have hbel : ∀ e ∈ bs, e.Rdy W := fun e he => by
    obtain ⟨d, hd, -, ds, sp, hds, hmem⟩ := hbE.mem he
    simp only at hds
    exact ⟨hd.rd, hd.wt fun n hn => hwb n (by rw [hds]; exact weights_mem Try.underlying38 hmem hn)⟩
  clear hA0 hval0
  refine (walk5 x0 hR0 hrd1 hw1 hbr hbel hbs).2.mono fun e W' ⟨v, he, hv, hu⟩ => ?_
  subst hv; subst he
  have bel := hu.below
  exact ⟨_, rfl, _, _, _, [], _, [], hW', trodAll_mk1 (shut_bool Try.underlying4 _), (trodAll_cons_mk (Below.trod laidOut (by kernel_rfl) (of_decide_eq_true (by kernel_rfl)) k0 bel lt0) (trodAll_cons_mk (Below.trod laidOut (by kernel_rfl) (of_decide_eq_true (by kernel_rfl)) k1 bel lt1) (trodAll_cons_mk (Below.trod laidOut (by kernel_rfl) (of_decide_eq_true (by kernel_rfl)) k2 bel lt2) trodAll_mk0))), rfl, bel.frame _, fun h => by cases h⟩

theorem over : Rows.dueApartRow.holds Try.pinned (OpenSpec.ofChange Rows.dueApartSpec) :=
  OpenClaim.holds_of_wide 5 Try.f5 rfl rfl rfl rfl rfl rfl rfl ⟨rfl, rfl, rfl, rfl, rfl⟩ rfl rfl rfl rfl rfl (by kernel_rfl) Try.func5 (by kernel_rfl)
    (of_decide_eq_true (by kernel_rfl)) (by unfold Func.isWrapper; first | (rw [if_pos (by decide +kernel)]; kernel_rfl) | (rw [if_neg (by decide +kernel)]; exact ⟨rfl, rfl⟩))
    (fun os started H enc _ => lifted os started H enc)

theorem proved : Rows.DueApartSaid := over
#print axioms proved
end Go.Proofs.Ytpnigekkbmanlaa.row5
