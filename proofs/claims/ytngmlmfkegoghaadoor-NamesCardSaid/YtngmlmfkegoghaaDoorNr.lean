/- Names (the card): at every state in which api.Keywords holds what the program's text lays, it returns true. No conditions but that; the card ties it. -/
import Derived.Test.YtngmlmfkegoghaaDoorNa
import Derived.Test.YtngmlmfkegoghaaDoorRows
import Derived.Test.YtngmlmfkegoghaaDoorTie
import Derived.Test.YtngmlmfkegoghaaDoorCards
import Derived.ProofKit
import Derived.RowKit
import Derived.LaidMore
import Derived.OpenShut
import Derived.Stop.Joined
import Derived.SevenTiedAt
namespace Go.Proofs.YtngmlmfkegoghaaDoor
open Sx
open Go.ChangeShapes Go.WideShapes Go.ChangeAt Go.RowKit

theorem arr_strings {H : Type} {enc : TypeId × Value → H} {W : World} {base fuel : Nat} {spare : Nat → Bool} {held : Bool} {t : TypeId} {n : Nat} {cs : List Value} {x : DataW H × List MemPlace} (ws : List ByteArray) (h : DataW.trod enc Tryd.prog W base spare held fuel t cs = some x) (ht : Tryd.prog.underlying t = some (.array n 9)) (hn : ws.length = n)
    (hx : x.1 = .agg (ws.map fun s => .lit (.string s.data.toList))) : ∀ i, i < n → cs[i]? = some (.string (ws.getD i ⟨#[]⟩)) := by
  obtain ⟨xs, m, rfl, rfl, hlen, hxs, hel⟩ := DataW.trod_array ht h
  have c9 : Tryd.prog.cellsOf 9 = 1 := by kernel_rfl
  intro i hi
  have he := hel i hi
  rw [c9, Nat.mul_one] at he
  simp only [DataW.agg.injEq] at hx
  have hi' : i < xs.length := by omega
  rw [List.getElem?_eq_getElem hi'] at he
  obtain ⟨s, hs, hxi, -⟩ := DataW.trod_string Tryd.underlying9 he
  have h1 : (xs.map (·.1))[i]? = some (.lit (.string s.data.toList)) := by rw [List.getElem?_map, List.getElem?_eq_getElem hi', hxi]; rfl
  have hiw : i < ws.length := by omega
  rw [hx, List.getElem?_map, List.getElem?_eq_getElem hiw] at h1
  simp only [Option.map_some, Option.some.injEq, DataW.lit.injEq, Lit.string.injEq] at h1
  have h2 : ws[i] = s := by
    have h3 : ws[i].data = s.data := Array.ext' h1
    cases hw : ws[i] with
    | mk d1 =>
      cases s with
      | mk d2 => rw [hw] at h3; exact congrArg ByteArray.mk h3
  have h3 : (cs.drop i)[0]? = some (.string s) := by
    have : ((cs.drop i).take 1)[0]? = some (.string s) := by rw [hs]; rfl
    rwa [List.getElem?_take, if_pos (by omega)] at this
  rw [List.getElem?_drop, Nat.add_zero] at h3
  rw [h3, List.getD_eq_getElem?_getD, List.getElem?_eq_getElem hiw, Option.getD_some, h2]

theorem own : ownKnob Tryd.prog.godebug = none := by kernel_rfl
theorem gKw : Tryd.prog.globalNamed "sluice/api.Keywords" = some 0 := by kernel_rfl
theorem tKw : (Tryd.prog.globals[0]?).map (·.type) = some 46 := by kernel_rfl
def laidK : List (String × DataW Unit) := [("sluice/api.Keywords", Rows.laid_sluice_api_Keywords)]

/-- The door's own heap meets the condition. -/
theorem door_met (os : Os) (args : Array Value) : laidMetH Tryd.prog laidK ((World.doorLaid Tryd.prog 29 os).forCall (fun _ _ => 0) ⟨#[], args, []⟩).memory :=
  laidMetH_of_parts3 (fuel := 8) (laidMet_of_run' 8 (by kernel_rfl) (by kernel_rfl)) (by kernel_rfl) (by kernel_rfl)

theorem of_laid {W : World} (h : laidMetH Tryd.prog laidK W) : ∀ i, i < 27 → W.cell? ⟨0, i, none⟩ = some (.string (kw.getD i ⟨#[]⟩)) := by
  rw [MakeChecks.laidMetH_plain _ _ _ (by kernel_rfl)] at h
  obtain ⟨ps, ⟨g0, t0, cs0, f0, p0, q0, hg0, ht0, hv0, hd0, _, _⟩, _, _⟩ := h
  obtain rfl := Option.some.inj (gKw.symm.trans hg0)
  obtain rfl := Option.some.inj (tKw.symm.trans ht0)
  intro i hi
  rw [World.var?_cell hg0 hv0 i, ← Array.getElem?_toList]
  exact arr_strings kw hd0 Tryd.underlying46 rfl rfl i hi

set_option maxRecDepth 100000 in
theorem lifted (os : Os) (started : os.Started) (H : Type) (enc : TypeId × Value → H) :
    ReturnsInHanded {} Tryd.checked os 3 .any (fun w args => (Rows.namesSpec.pre enc Tryd.prog Tryd.f3 [] false w args ∧ laidMetH Tryd.prog laidK w) ∧ sizedMet enc Tryd.prog Tryd.f3 (OpenSpec.ofChange Rows.namesSpec) false w args)
      (Rows.namesSpec.post enc Tryd.prog Tryd.f3 false true false false) := by
  refine returnsInHanded_of_change_and (C := Tryd.checked) (X := fun w _ => laidMetH Tryd.prog laidK w) (fun _ _ _ hh h => h.of_heap hh) own started (by kernel_rfl) Tryd.func3
    (ChangeSpec.witness_shaped (enc := enc) (C := Tryd.checked) (os := os) (X := fun w _ => laidMetH Tryd.prog laidK w) false (World.doorLaid Tryd.prog 29 os) #[] 8 rfl (World.shaped_of_RefB (by kernel_rfl) (by kernel_rfl)) (by kernel_rfl) (by kernel_rfl) (by kernel_rfl) (door_met os _)) ?_
  intro W base args ds gs before _ hW _ _ hL _
  have hW' := hW
  obtain ⟨p, q, hA0, hV, rfl, hfz, hnd⟩ := hW
  have hA : DataW.TrodAll enc Tryd.prog W 0 (fun _ => true) true Tryd.f3.params.toList args.toList ds p := hA0
  rw [Tryd.params3] at hA
  obtain ⟨hargs, rfl, rfl⟩ := trodAll_nil hA
  obtain rfl : args = #[] := by cases args; simp_all
  obtain ⟨rfl, rfl⟩ := trodVars_none hV
  refine (names_ W (of_laid hL)).2.mono fun e W' ⟨v, he, hv, hu⟩ => ?_
  subst hv; subst he
  have bel := hu.below
  exact ⟨_, rfl, _, _, _, [], _, [], hW', trodAll_mk1 (shut_bool Tryd.underlying4 _), trodAll_mk0, rfl, bel.frame _, fun h => by cases h⟩

theorem names_holds : Rows.NamesSaid :=
  OpenClaim.holds_of_wide 3 Tryd.f3 rfl rfl rfl rfl rfl rfl rfl ⟨rfl, rfl, rfl, rfl, rfl⟩ rfl rfl rfl rfl rfl (by kernel_rfl) Tryd.func3 (by kernel_rfl)
    (of_decide_eq_true (by kernel_rfl)) (by unfold Func.isWrapper; first | (rw [if_pos (by decide +kernel)]; kernel_rfl) | (rw [if_neg (by decide +kernel)]; exact ⟨rfl, rfl⟩))
    (fun os started H enc _ => lifted os started H enc)

theorem card_holds : Rows.NamesCardSaid :=
  Claim7.holds_tied_plain_at .later [] [.data] true (true, "bf5030d8444b49b352e8cbb05e7dc1c10914bba7a63faef4c642b3757418ffe6") false
    names_holds (fun _ h => by cases h) (by kernel_rfl) (fun _ h => by cases h) names_row_tie rfl ⟨rfl, rfl⟩ (by kernel_rfl) rfl
    (fun f fn hf hfn => by
      obtain rfl : f = 3 := Option.some.inj ((show Tryd.prog.funcNamed "sluice/sluicetop.Names" = some 3 by kernel_rfl).symm.trans hf) |>.symm
      obtain rfl : fn = Tryd.f3 := (Option.some.inj (Tryd.func3.symm.trans hfn)).symm
      exact ⟨by kernel_rfl, fun j t ht => by
        rw [Tryd.params3] at ht
        simp at ht⟩)
    (by kernel_rfl)
#print axioms card_holds
end Go.Proofs.YtngmlmfkegoghaaDoor
