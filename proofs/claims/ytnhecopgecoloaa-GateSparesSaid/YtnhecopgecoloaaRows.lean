/-
  No cell of these rows narrows 'for every input' (looked for: loops, veiled, ifaces, maps, wideKeys, modest, calm, conditions, laid).
  DERIVED. THE GIVEN ROWS OF THIS SEAT. 8 by the template 'for every input the law returns true; each argument reads behind the call as it read before'; 0 by the template 'total and deterministic' (their statements: YtnhecopgecoloaaTotals.lean).
  GIVEN WITH THE SEED: the statements are not yours to turn. If you find one false, say at which input.
  Laid BY PROGRAM, IN A SANDBOX (cutbox-rows.mjs): the forced cells as the released guide's own fill.sh prints them over the translation 489d8dc2a4c75fec… (all of the seat's roots in one cut). By AI agents, Wed Nov 11 2026. No macro, syntax, notation, axiom, sorry.
-/
import Derived.Test.YtnhecopgecoloaaChecked
import GoSem.Claim
import GoSem.ClaimJoined
import GoSem.ClaimMapViews
import Derived.JoinedTies
import Derived.KernelRfl
namespace Go.Proofs.Ytnhecopgecoloaa
/- THE CELL 'sum', in the pinned program and in every row, IS THE sha256 OF THE DUMP (.gsa) THAT YtnhecopgecoloaaProg.lean LOADS. Nothing in Lean hashes anything: it is a label: what it is worth is what the hold of that sum in a sandbox is worth. -/
noncomputable def Try.pinned : Pinned := { name := "ytnhecopgecoloaa", sum := "489d8dc2a4c75fec2a6b0ccdbb6d84ef56726ede9b627e6a7e8a4402bce43166", checked := Try.checked }
namespace Rows
def none {H : Type} : Left H := { results := [], args := [] }

/-- 'sluicelaw10.GateFills': WHATEVER THE INPUT: true; the input reads as it did. -/
def gateFillsSpec : ChangeSpec := { name := "gateFills", fn := fun _ => fun
  | [d1, d2] => { results := [.lit (.bool true)], args := [d1, d2] }
  | _ => none }
def gateFillsRow : OpenClaim := { program := "ytnhecopgecoloaa", sum := "489d8dc2a4c75fec2a6b0ccdbb6d84ef56726ede9b627e6a7e8a4402bce43166", func := "sluice/sluicelaw10.GateFills", spec := "gateFills", unfollowed := true, recurses := true, plainKeys := false, apart := false }
def GateFillsSaid : Prop := gateFillsRow.holds Try.pinned (OpenSpec.ofChange gateFillsSpec)

/-- ITS FALSE NEIGHBOUR: 'it returns false'. Refute it at one input. -/
def gateFillsWrong : ChangeSpec := { name := "gateFills", fn := fun _ => fun
  | [d1, d2] => { results := [.lit (.bool false)], args := [d1, d2] }
  | _ => none }
def GateFillsWrongFalsely : Prop := gateFillsRow.holds Try.pinned (OpenSpec.ofChange gateFillsWrong)

/-- 'sluicelaw10.GateArrival': WHATEVER THE INPUT: true; the input reads as it did. -/
def gateArrivalSpec : ChangeSpec := { name := "gateArrival", fn := fun _ => fun
  | [d1, d2, d3] => { results := [.lit (.bool true)], args := [d1, d2, d3] }
  | _ => none }
def gateArrivalRow : OpenClaim := { program := "ytnhecopgecoloaa", sum := "489d8dc2a4c75fec2a6b0ccdbb6d84ef56726ede9b627e6a7e8a4402bce43166", func := "sluice/sluicelaw10.GateArrival", spec := "gateArrival", unfollowed := true, recurses := true, plainKeys := false, apart := false }
def GateArrivalSaid : Prop := gateArrivalRow.holds Try.pinned (OpenSpec.ofChange gateArrivalSpec)

/-- ITS FALSE NEIGHBOUR: 'it returns false'. Refute it at one input. -/
def gateArrivalWrong : ChangeSpec := { name := "gateArrival", fn := fun _ => fun
  | [d1, d2, d3] => { results := [.lit (.bool false)], args := [d1, d2, d3] }
  | _ => none }
def GateArrivalWrongFalsely : Prop := gateArrivalRow.holds Try.pinned (OpenSpec.ofChange gateArrivalWrong)

/-- 'sluicelaw10.GateSorts': WHATEVER THE INPUT: true; the input reads as it did. -/
def gateSortsSpec : ChangeSpec := { name := "gateSorts", fn := fun _ => fun
  | [d1, d2] => { results := [.lit (.bool true)], args := [d1, d2] }
  | _ => none }
def gateSortsRow : OpenClaim := { program := "ytnhecopgecoloaa", sum := "489d8dc2a4c75fec2a6b0ccdbb6d84ef56726ede9b627e6a7e8a4402bce43166", func := "sluice/sluicelaw10.GateSorts", spec := "gateSorts", unfollowed := true, recurses := true, plainKeys := false, apart := false }
def GateSortsSaid : Prop := gateSortsRow.holds Try.pinned (OpenSpec.ofChange gateSortsSpec)

/-- ITS FALSE NEIGHBOUR: 'it returns false'. Refute it at one input. -/
def gateSortsWrong : ChangeSpec := { name := "gateSorts", fn := fun _ => fun
  | [d1, d2] => { results := [.lit (.bool false)], args := [d1, d2] }
  | _ => none }
def GateSortsWrongFalsely : Prop := gateSortsRow.holds Try.pinned (OpenSpec.ofChange gateSortsWrong)

/-- 'sluicelaw10.GateJoins': WHATEVER THE INPUT: true; the input reads as it did. -/
def gateJoinsSpec : ChangeSpec := { name := "gateJoins", fn := fun _ => fun
  | [d1, d2, d3] => { results := [.lit (.bool true)], args := [d1, d2, d3] }
  | _ => none }
def gateJoinsRow : OpenClaim := { program := "ytnhecopgecoloaa", sum := "489d8dc2a4c75fec2a6b0ccdbb6d84ef56726ede9b627e6a7e8a4402bce43166", func := "sluice/sluicelaw10.GateJoins", spec := "gateJoins", unfollowed := true, recurses := true, plainKeys := false, apart := false }
def GateJoinsSaid : Prop := gateJoinsRow.holds Try.pinned (OpenSpec.ofChange gateJoinsSpec)

/-- ITS FALSE NEIGHBOUR: 'it returns false'. Refute it at one input. -/
def gateJoinsWrong : ChangeSpec := { name := "gateJoins", fn := fun _ => fun
  | [d1, d2, d3] => { results := [.lit (.bool false)], args := [d1, d2, d3] }
  | _ => none }
def GateJoinsWrongFalsely : Prop := gateJoinsRow.holds Try.pinned (OpenSpec.ofChange gateJoinsWrong)

/-- 'sluicelaw10.GateKeeps': WHATEVER THE INPUT: true; the input reads as it did. -/
def gateKeepsSpec : ChangeSpec := { name := "gateKeeps", fn := fun _ => fun
  | [d1, d2] => { results := [.lit (.bool true)], args := [d1, d2] }
  | _ => none }
def gateKeepsRow : OpenClaim := { program := "ytnhecopgecoloaa", sum := "489d8dc2a4c75fec2a6b0ccdbb6d84ef56726ede9b627e6a7e8a4402bce43166", func := "sluice/sluicelaw10.GateKeeps", spec := "gateKeeps", unfollowed := true, recurses := true, plainKeys := false, apart := false }
def GateKeepsSaid : Prop := gateKeepsRow.holds Try.pinned (OpenSpec.ofChange gateKeepsSpec)

/-- ITS FALSE NEIGHBOUR: 'it returns false'. Refute it at one input. -/
def gateKeepsWrong : ChangeSpec := { name := "gateKeeps", fn := fun _ => fun
  | [d1, d2] => { results := [.lit (.bool false)], args := [d1, d2] }
  | _ => none }
def GateKeepsWrongFalsely : Prop := gateKeepsRow.holds Try.pinned (OpenSpec.ofChange gateKeepsWrong)

/-- 'sluicelaw10.GateSpares': WHATEVER THE INPUT: true; the input reads as it did. -/
def gateSparesSpec : ChangeSpec := { name := "gateSpares", fn := fun _ => fun
  | [d1, d2] => { results := [.lit (.bool true)], args := [d1, d2] }
  | _ => none }
def gateSparesRow : OpenClaim := { program := "ytnhecopgecoloaa", sum := "489d8dc2a4c75fec2a6b0ccdbb6d84ef56726ede9b627e6a7e8a4402bce43166", func := "sluice/sluicelaw10.GateSpares", spec := "gateSpares", unfollowed := true, recurses := true, plainKeys := false, apart := false }
def GateSparesSaid : Prop := gateSparesRow.holds Try.pinned (OpenSpec.ofChange gateSparesSpec)

/-- ITS FALSE NEIGHBOUR: 'it returns false'. Refute it at one input. -/
def gateSparesWrong : ChangeSpec := { name := "gateSpares", fn := fun _ => fun
  | [d1, d2] => { results := [.lit (.bool false)], args := [d1, d2] }
  | _ => none }
def GateSparesWrongFalsely : Prop := gateSparesRow.holds Try.pinned (OpenSpec.ofChange gateSparesWrong)

/-- 'sluicelaw10.GatePlays': WHATEVER THE INPUT: true; the input reads as it did. -/
def gatePlaysSpec : ChangeSpec := { name := "gatePlays", fn := fun _ => fun
  | [d1, d2, d3] => { results := [.lit (.bool true)], args := [d1, d2, d3] }
  | _ => none }
def gatePlaysRow : OpenClaim := { program := "ytnhecopgecoloaa", sum := "489d8dc2a4c75fec2a6b0ccdbb6d84ef56726ede9b627e6a7e8a4402bce43166", func := "sluice/sluicelaw10.GatePlays", spec := "gatePlays", unfollowed := true, recurses := true, plainKeys := false, apart := false }
def GatePlaysSaid : Prop := gatePlaysRow.holds Try.pinned (OpenSpec.ofChange gatePlaysSpec)

/-- ITS FALSE NEIGHBOUR: 'it returns false'. Refute it at one input. -/
def gatePlaysWrong : ChangeSpec := { name := "gatePlays", fn := fun _ => fun
  | [d1, d2, d3] => { results := [.lit (.bool false)], args := [d1, d2, d3] }
  | _ => none }
def GatePlaysWrongFalsely : Prop := gatePlaysRow.holds Try.pinned (OpenSpec.ofChange gatePlaysWrong)

/-- 'sluicelaw10.GateRestores': WHATEVER THE INPUT: true; the input reads as it did. -/
def gateRestoresSpec : ChangeSpec := { name := "gateRestores", fn := fun _ => fun
  | [d1, d2, d3, d4, d5, d6] => { results := [.lit (.bool true)], args := [d1, d2, d3, d4, d5, d6] }
  | _ => none }
def gateRestoresRow : OpenClaim := { program := "ytnhecopgecoloaa", sum := "489d8dc2a4c75fec2a6b0ccdbb6d84ef56726ede9b627e6a7e8a4402bce43166", func := "sluice/sluicelaw10.GateRestores", spec := "gateRestores", unfollowed := true, recurses := true, plainKeys := false, apart := false }
def GateRestoresSaid : Prop := gateRestoresRow.holds Try.pinned (OpenSpec.ofChange gateRestoresSpec)

/-- ITS FALSE NEIGHBOUR: 'it returns false'. Refute it at one input. -/
def gateRestoresWrong : ChangeSpec := { name := "gateRestores", fn := fun _ => fun
  | [d1, d2, d3, d4, d5, d6] => { results := [.lit (.bool false)], args := [d1, d2, d3, d4, d5, d6] }
  | _ => none }
def GateRestoresWrongFalsely : Prop := gateRestoresRow.holds Try.pinned (OpenSpec.ofChange gateRestoresWrong)

/- THE SECOND FORM. 'bulk': how many values and letters a reading holds, each counted each time it is reached (what is shared counts as often as it is met; a slice's spare places count too). A statement '..UptoSaid' is the law's where the arguments, and the package variables that the reading takes, are together of bulk at most 1048576: NARROWER than '..Said'. Prove '..Said' where nothing that the law and all that it calls make is longer than what came in: it says more and counts as full. Else prove '..UptoSaid'. A law counts once. -/
mutual
def uptoBulk {H : Type} : DataW H → Nat
  | .lit (.string bytes) => bytes.length + 1
  | .lit _ => 1
  | .nil => 1
  | .ptr d => uptoBulk d + 1
  | .slice elems spare => uptoBulkAll elems + uptoBulkAll spare + 1
  | .agg parts => uptoBulkAll parts + 1
  | .iface _ d => uptoBulk d + 1
  | .map entries => uptoBulkEntries entries + 1
  | .held _ => 1
def uptoBulkAll {H : Type} : List (DataW H) → Nat
  | [] => 0
  | d :: r => uptoBulk d + uptoBulkAll r
def uptoBulkEntries {H : Type} : List (Lit × DataW H) → Nat
  | [] => 0
  | x :: r => uptoBulkEntry x + uptoBulkEntries r
def uptoBulkEntry {H : Type} : Lit × DataW H → Nat
  | (.string bytes, d) => bytes.length + uptoBulk d + 1
  | (_, d) => uptoBulk d + 1
 end
def uptoSmall : (H : Type) → List (DataW H) → Bool := fun _ ds => decide (uptoBulkAll ds ≤ 1048576)
def OpenSpec.upto (s : _root_.Go.ChangeSpec) : _root_.Go.OpenSpec := { _root_.Go.OpenSpec.ofChange s with cond := some uptoSmall }

/-- 'sluicelaw10.GateFills', WHERE WHAT IT READS IS OF BULK AT MOST 1048576: true; the input reads as it did. -/
def gateFillsUptoRow : OpenClaim := { program := "ytnhecopgecoloaa", sum := "489d8dc2a4c75fec2a6b0ccdbb6d84ef56726ede9b627e6a7e8a4402bce43166", func := "sluice/sluicelaw10.GateFills", spec := "gateFills", unfollowed := true, recurses := true, plainKeys := false, apart := false, narrowed := true }
def GateFillsUptoSaid : Prop := gateFillsUptoRow.holds Try.pinned (OpenSpec.upto gateFillsSpec)

/-- 'sluicelaw10.GateArrival', WHERE WHAT IT READS IS OF BULK AT MOST 1048576: true; the input reads as it did. -/
def gateArrivalUptoRow : OpenClaim := { program := "ytnhecopgecoloaa", sum := "489d8dc2a4c75fec2a6b0ccdbb6d84ef56726ede9b627e6a7e8a4402bce43166", func := "sluice/sluicelaw10.GateArrival", spec := "gateArrival", unfollowed := true, recurses := true, plainKeys := false, apart := false, narrowed := true }
def GateArrivalUptoSaid : Prop := gateArrivalUptoRow.holds Try.pinned (OpenSpec.upto gateArrivalSpec)

/-- 'sluicelaw10.GateSorts', WHERE WHAT IT READS IS OF BULK AT MOST 1048576: true; the input reads as it did. -/
def gateSortsUptoRow : OpenClaim := { program := "ytnhecopgecoloaa", sum := "489d8dc2a4c75fec2a6b0ccdbb6d84ef56726ede9b627e6a7e8a4402bce43166", func := "sluice/sluicelaw10.GateSorts", spec := "gateSorts", unfollowed := true, recurses := true, plainKeys := false, apart := false, narrowed := true }
def GateSortsUptoSaid : Prop := gateSortsUptoRow.holds Try.pinned (OpenSpec.upto gateSortsSpec)

/-- 'sluicelaw10.GateJoins', WHERE WHAT IT READS IS OF BULK AT MOST 1048576: true; the input reads as it did. -/
def gateJoinsUptoRow : OpenClaim := { program := "ytnhecopgecoloaa", sum := "489d8dc2a4c75fec2a6b0ccdbb6d84ef56726ede9b627e6a7e8a4402bce43166", func := "sluice/sluicelaw10.GateJoins", spec := "gateJoins", unfollowed := true, recurses := true, plainKeys := false, apart := false, narrowed := true }
def GateJoinsUptoSaid : Prop := gateJoinsUptoRow.holds Try.pinned (OpenSpec.upto gateJoinsSpec)

/-- 'sluicelaw10.GateKeeps', WHERE WHAT IT READS IS OF BULK AT MOST 1048576: true; the input reads as it did. -/
def gateKeepsUptoRow : OpenClaim := { program := "ytnhecopgecoloaa", sum := "489d8dc2a4c75fec2a6b0ccdbb6d84ef56726ede9b627e6a7e8a4402bce43166", func := "sluice/sluicelaw10.GateKeeps", spec := "gateKeeps", unfollowed := true, recurses := true, plainKeys := false, apart := false, narrowed := true }
def GateKeepsUptoSaid : Prop := gateKeepsUptoRow.holds Try.pinned (OpenSpec.upto gateKeepsSpec)

/-- 'sluicelaw10.GateSpares', WHERE WHAT IT READS IS OF BULK AT MOST 1048576: true; the input reads as it did. -/
def gateSparesUptoRow : OpenClaim := { program := "ytnhecopgecoloaa", sum := "489d8dc2a4c75fec2a6b0ccdbb6d84ef56726ede9b627e6a7e8a4402bce43166", func := "sluice/sluicelaw10.GateSpares", spec := "gateSpares", unfollowed := true, recurses := true, plainKeys := false, apart := false, narrowed := true }
def GateSparesUptoSaid : Prop := gateSparesUptoRow.holds Try.pinned (OpenSpec.upto gateSparesSpec)

/-- 'sluicelaw10.GatePlays', WHERE WHAT IT READS IS OF BULK AT MOST 1048576: true; the input reads as it did. -/
def gatePlaysUptoRow : OpenClaim := { program := "ytnhecopgecoloaa", sum := "489d8dc2a4c75fec2a6b0ccdbb6d84ef56726ede9b627e6a7e8a4402bce43166", func := "sluice/sluicelaw10.GatePlays", spec := "gatePlays", unfollowed := true, recurses := true, plainKeys := false, apart := false, narrowed := true }
def GatePlaysUptoSaid : Prop := gatePlaysUptoRow.holds Try.pinned (OpenSpec.upto gatePlaysSpec)

/-- 'sluicelaw10.GateRestores', WHERE WHAT IT READS IS OF BULK AT MOST 1048576: true; the input reads as it did. -/
def gateRestoresUptoRow : OpenClaim := { program := "ytnhecopgecoloaa", sum := "489d8dc2a4c75fec2a6b0ccdbb6d84ef56726ede9b627e6a7e8a4402bce43166", func := "sluice/sluicelaw10.GateRestores", spec := "gateRestores", unfollowed := true, recurses := true, plainKeys := false, apart := false, narrowed := true }
def GateRestoresUptoSaid : Prop := gateRestoresUptoRow.holds Try.pinned (OpenSpec.upto gateRestoresSpec)

end Rows
end Go.Proofs.Ytnhecopgecoloaa
