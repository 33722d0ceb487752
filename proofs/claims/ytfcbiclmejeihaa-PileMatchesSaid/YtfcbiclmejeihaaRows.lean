/-
  No cell of these rows narrows 'for every input' (looked for: loops, veiled, ifaces, maps, wideKeys, modest, calm, conditions, laid).
  DERIVED. THE GIVEN ROWS OF THIS SEAT. 9 by the template 'for every input the law returns true; each argument reads behind the call as it read before'; 0 by the template 'total and deterministic' (their statements: YtfcbiclmejeihaaTotals.lean).
  GIVEN WITH THE SEED: the statements are not yours to turn. If you find one false, say at which input.
  Laid BY PROGRAM, IN A SANDBOX (cutbox-rows.mjs): the forced cells as the released guide's own fill.sh prints them over the translation 1eb056dd849f9715… (all of the seat's roots in one cut). By AI agents, Wed Nov 11 2026. No macro, syntax, notation, axiom, sorry.
-/
import Derived.Test.YtfcbiclmejeihaaChecked
import GoSem.Claim
import GoSem.ClaimJoined
import GoSem.ClaimMapViews
import Derived.JoinedTies
import Derived.KernelRfl
namespace Go.Proofs.Ytfcbiclmejeihaa
/- THE CELL 'sum', in the pinned program and in every row, IS THE sha256 OF THE DUMP (.gsa) THAT YtfcbiclmejeihaaProg.lean LOADS. Nothing in Lean hashes anything: it is a label: what it is worth is what the hold of that sum in a sandbox is worth. -/
noncomputable def Try.pinned : Pinned := { name := "ytfcbiclmejeihaa", sum := "1eb056dd849f97157c17d5571ca22e137adc0241e0d5401e757a1dc46bf0a893", checked := Try.checked }
namespace Rows
def none {H : Type} : Left H := { results := [], args := [] }

/-- 'sluicelaw9.PileLeast': WHATEVER THE INPUT: true; the input reads as it did. -/
def pileLeastSpec : ChangeSpec := { name := "pileLeast", fn := fun _ => fun
  | [d1, d2] => { results := [.lit (.bool true)], args := [d1, d2] }
  | _ => none }
def pileLeastRow : OpenClaim := { program := "ytfcbiclmejeihaa", sum := "1eb056dd849f97157c17d5571ca22e137adc0241e0d5401e757a1dc46bf0a893", func := "sluice/sluicelaw9.PileLeast", spec := "pileLeast", unfollowed := true, recurses := true, apart := false }
def PileLeastSaid : Prop := pileLeastRow.holds Try.pinned (OpenSpec.ofChange pileLeastSpec)

/-- ITS FALSE NEIGHBOUR: 'it returns false'. Refute it at one input. -/
def pileLeastWrong : ChangeSpec := { name := "pileLeast", fn := fun _ => fun
  | [d1, d2] => { results := [.lit (.bool false)], args := [d1, d2] }
  | _ => none }
def PileLeastWrongFalsely : Prop := pileLeastRow.holds Try.pinned (OpenSpec.ofChange pileLeastWrong)

/-- 'sluicelaw9.PileSorts': WHATEVER THE INPUT: true; the input reads as it did. -/
def pileSortsSpec : ChangeSpec := { name := "pileSorts", fn := fun _ => fun
  | [d] => { results := [.lit (.bool true)], args := [d] }
  | _ => none }
def pileSortsRow : OpenClaim := { program := "ytfcbiclmejeihaa", sum := "1eb056dd849f97157c17d5571ca22e137adc0241e0d5401e757a1dc46bf0a893", func := "sluice/sluicelaw9.PileSorts", spec := "pileSorts", unfollowed := true, recurses := true, apart := false }
def PileSortsSaid : Prop := pileSortsRow.holds Try.pinned (OpenSpec.ofChange pileSortsSpec)

/-- ITS FALSE NEIGHBOUR: 'it returns false'. Refute it at one input. -/
def pileSortsWrong : ChangeSpec := { name := "pileSorts", fn := fun _ => fun
  | [d] => { results := [.lit (.bool false)], args := [d] }
  | _ => none }
def PileSortsWrongFalsely : Prop := pileSortsRow.holds Try.pinned (OpenSpec.ofChange pileSortsWrong)

/-- 'sluicelaw9.PileMatches': WHATEVER THE INPUT: true; the input reads as it did. -/
def pileMatchesSpec : ChangeSpec := { name := "pileMatches", fn := fun _ => fun
  | [d] => { results := [.lit (.bool true)], args := [d] }
  | _ => none }
def pileMatchesRow : OpenClaim := { program := "ytfcbiclmejeihaa", sum := "1eb056dd849f97157c17d5571ca22e137adc0241e0d5401e757a1dc46bf0a893", func := "sluice/sluicelaw9.PileMatches", spec := "pileMatches", unfollowed := true, recurses := true, apart := false }
def PileMatchesSaid : Prop := pileMatchesRow.holds Try.pinned (OpenSpec.ofChange pileMatchesSpec)

/-- ITS FALSE NEIGHBOUR: 'it returns false'. Refute it at one input. -/
def pileMatchesWrong : ChangeSpec := { name := "pileMatches", fn := fun _ => fun
  | [d] => { results := [.lit (.bool false)], args := [d] }
  | _ => none }
def PileMatchesWrongFalsely : Prop := pileMatchesRow.holds Try.pinned (OpenSpec.ofChange pileMatchesWrong)

/-- 'sluicelaw9.PileStable': WHATEVER THE INPUT: true; the input reads as it did. -/
def pileStableSpec : ChangeSpec := { name := "pileStable", fn := fun _ => fun
  | [d] => { results := [.lit (.bool true)], args := [d] }
  | _ => none }
def pileStableRow : OpenClaim := { program := "ytfcbiclmejeihaa", sum := "1eb056dd849f97157c17d5571ca22e137adc0241e0d5401e757a1dc46bf0a893", func := "sluice/sluicelaw9.PileStable", spec := "pileStable", unfollowed := true, recurses := true, apart := false }
def PileStableSaid : Prop := pileStableRow.holds Try.pinned (OpenSpec.ofChange pileStableSpec)

/-- ITS FALSE NEIGHBOUR: 'it returns false'. Refute it at one input. -/
def pileStableWrong : ChangeSpec := { name := "pileStable", fn := fun _ => fun
  | [d] => { results := [.lit (.bool false)], args := [d] }
  | _ => none }
def PileStableWrongFalsely : Prop := pileStableRow.holds Try.pinned (OpenSpec.ofChange pileStableWrong)

/-- 'sluicelaw9.PilePlays': WHATEVER THE INPUT: true; the input reads as it did. -/
def pilePlaysSpec : ChangeSpec := { name := "pilePlays", fn := fun _ => fun
  | [d] => { results := [.lit (.bool true)], args := [d] }
  | _ => none }
def pilePlaysRow : OpenClaim := { program := "ytfcbiclmejeihaa", sum := "1eb056dd849f97157c17d5571ca22e137adc0241e0d5401e757a1dc46bf0a893", func := "sluice/sluicelaw9.PilePlays", spec := "pilePlays", unfollowed := true, recurses := true, apart := false }
def PilePlaysSaid : Prop := pilePlaysRow.holds Try.pinned (OpenSpec.ofChange pilePlaysSpec)

/-- ITS FALSE NEIGHBOUR: 'it returns false'. Refute it at one input. -/
def pilePlaysWrong : ChangeSpec := { name := "pilePlays", fn := fun _ => fun
  | [d] => { results := [.lit (.bool false)], args := [d] }
  | _ => none }
def PilePlaysWrongFalsely : Prop := pilePlaysRow.holds Try.pinned (OpenSpec.ofChange pilePlaysWrong)

/-- 'sluicelaw9.PileNames': WHATEVER THE INPUT: true; the input reads as it did. -/
def pileNamesSpec : ChangeSpec := { name := "pileNames", fn := fun _ => fun
  | [d] => { results := [.lit (.bool true)], args := [d] }
  | _ => none }
def pileNamesRow : OpenClaim := { program := "ytfcbiclmejeihaa", sum := "1eb056dd849f97157c17d5571ca22e137adc0241e0d5401e757a1dc46bf0a893", func := "sluice/sluicelaw9.PileNames", spec := "pileNames", unfollowed := true, recurses := true, apart := false }
def PileNamesSaid : Prop := pileNamesRow.holds Try.pinned (OpenSpec.ofChange pileNamesSpec)

/-- ITS FALSE NEIGHBOUR: 'it returns false'. Refute it at one input. -/
def pileNamesWrong : ChangeSpec := { name := "pileNames", fn := fun _ => fun
  | [d] => { results := [.lit (.bool false)], args := [d] }
  | _ => none }
def PileNamesWrongFalsely : Prop := pileNamesRow.holds Try.pinned (OpenSpec.ofChange pileNamesWrong)

/-- 'sluicelaw9.PileDrains': WHATEVER THE INPUT: true; the input reads as it did. -/
def pileDrainsSpec : ChangeSpec := { name := "pileDrains", fn := fun _ => fun
  | [d] => { results := [.lit (.bool true)], args := [d] }
  | _ => none }
def pileDrainsRow : OpenClaim := { program := "ytfcbiclmejeihaa", sum := "1eb056dd849f97157c17d5571ca22e137adc0241e0d5401e757a1dc46bf0a893", func := "sluice/sluicelaw9.PileDrains", spec := "pileDrains", unfollowed := true, recurses := true, apart := false }
def PileDrainsSaid : Prop := pileDrainsRow.holds Try.pinned (OpenSpec.ofChange pileDrainsSpec)

/-- ITS FALSE NEIGHBOUR: 'it returns false'. Refute it at one input. -/
def pileDrainsWrong : ChangeSpec := { name := "pileDrains", fn := fun _ => fun
  | [d] => { results := [.lit (.bool false)], args := [d] }
  | _ => none }
def PileDrainsWrongFalsely : Prop := pileDrainsRow.holds Try.pinned (OpenSpec.ofChange pileDrainsWrong)

/-- 'sluicelaw9.PileAnyOrder': WHATEVER THE INPUT: true; the input reads as it did. -/
def pileAnyOrderSpec : ChangeSpec := { name := "pileAnyOrder", fn := fun _ => fun
  | [d1, d2] => { results := [.lit (.bool true)], args := [d1, d2] }
  | _ => none }
def pileAnyOrderRow : OpenClaim := { program := "ytfcbiclmejeihaa", sum := "1eb056dd849f97157c17d5571ca22e137adc0241e0d5401e757a1dc46bf0a893", func := "sluice/sluicelaw9.PileAnyOrder", spec := "pileAnyOrder", unfollowed := true, recurses := true, apart := false }
def PileAnyOrderSaid : Prop := pileAnyOrderRow.holds Try.pinned (OpenSpec.ofChange pileAnyOrderSpec)

/-- ITS FALSE NEIGHBOUR: 'it returns false'. Refute it at one input. -/
def pileAnyOrderWrong : ChangeSpec := { name := "pileAnyOrder", fn := fun _ => fun
  | [d1, d2] => { results := [.lit (.bool false)], args := [d1, d2] }
  | _ => none }
def PileAnyOrderWrongFalsely : Prop := pileAnyOrderRow.holds Try.pinned (OpenSpec.ofChange pileAnyOrderWrong)

/-- 'sluicelaw9.PileFresh': WHATEVER THE INPUT: true; the input reads as it did. -/
def pileFreshSpec : ChangeSpec := { name := "pileFresh", fn := fun _ => fun
  | [d] => { results := [.lit (.bool true)], args := [d] }
  | _ => none }
def pileFreshRow : OpenClaim := { program := "ytfcbiclmejeihaa", sum := "1eb056dd849f97157c17d5571ca22e137adc0241e0d5401e757a1dc46bf0a893", func := "sluice/sluicelaw9.PileFresh", spec := "pileFresh", unfollowed := true, recurses := true, apart := false }
def PileFreshSaid : Prop := pileFreshRow.holds Try.pinned (OpenSpec.ofChange pileFreshSpec)

/-- ITS FALSE NEIGHBOUR: 'it returns false'. Refute it at one input. -/
def pileFreshWrong : ChangeSpec := { name := "pileFresh", fn := fun _ => fun
  | [d] => { results := [.lit (.bool false)], args := [d] }
  | _ => none }
def PileFreshWrongFalsely : Prop := pileFreshRow.holds Try.pinned (OpenSpec.ofChange pileFreshWrong)

/- THE SECOND FORM. 'bulk': how many values and letters a reading holds, each counted each time it is reached (what is shared counts as often as it is met; a slice's spare places count too). A statement '..UptoSaid' is the law's where the arguments, and the package variables that the reading takes, are together of bulk at most 1048576: NARROWER than '..Said'. Prove '..Said' where nothing that the law and all that it calls make is longer than what came in: it says more and counts as full. Else prove '..UptoSaid'. A law counts once. -/
mutual
def uptoBulk {H : Type} : DataW H → Nat
  | .lit (.string bytes) => bytes.length + 1
  | .lit _ => 1
  | .nil => 1
  | .ptr d => uptoBulk d + 1
  | .slice elems spare => uptoBulkAll elems + uptoBulkAll spare + 1
  | .agg parts => uptoBulkAll parts + 1
  | .iface _ d => uptoBulk d + 1
  | .map entries => uptoBulkEntries entries + 1
  | .held _ => 1
def uptoBulkAll {H : Type} : List (DataW H) → Nat
  | [] => 0
  | d :: r => uptoBulk d + uptoBulkAll r
def uptoBulkEntries {H : Type} : List (Lit × DataW H) → Nat
  | [] => 0
  | x :: r => uptoBulkEntry x + uptoBulkEntries r
def uptoBulkEntry {H : Type} : Lit × DataW H → Nat
  | (.string bytes, d) => bytes.length + uptoBulk d + 1
  | (_, d) => uptoBulk d + 1
 end
def uptoSmall : (H : Type) → List (DataW H) → Bool := fun _ ds => decide (uptoBulkAll ds ≤ 1048576)
def OpenSpec.upto (s : _root_.Go.ChangeSpec) : _root_.Go.OpenSpec := { _root_.Go.OpenSpec.ofChange s with cond := some uptoSmall }

/-- 'sluicelaw9.PileLeast', WHERE WHAT IT READS IS OF BULK AT MOST 1048576: true; the input reads as it did. -/
def pileLeastUptoRow : OpenClaim := { program := "ytfcbiclmejeihaa", sum := "1eb056dd849f97157c17d5571ca22e137adc0241e0d5401e757a1dc46bf0a893", func := "sluice/sluicelaw9.PileLeast", spec := "pileLeast", unfollowed := true, recurses := true, apart := false, narrowed := true }
def PileLeastUptoSaid : Prop := pileLeastUptoRow.holds Try.pinned (OpenSpec.upto pileLeastSpec)

/-- 'sluicelaw9.PileSorts', WHERE WHAT IT READS IS OF BULK AT MOST 1048576: true; the input reads as it did. -/
def pileSortsUptoRow : OpenClaim := { program := "ytfcbiclmejeihaa", sum := "1eb056dd849f97157c17d5571ca22e137adc0241e0d5401e757a1dc46bf0a893", func := "sluice/sluicelaw9.PileSorts", spec := "pileSorts", unfollowed := true, recurses := true, apart := false, narrowed := true }
def PileSortsUptoSaid : Prop := pileSortsUptoRow.holds Try.pinned (OpenSpec.upto pileSortsSpec)

/-- 'sluicelaw9.PileMatches', WHERE WHAT IT READS IS OF BULK AT MOST 1048576: true; the input reads as it did. -/
def pileMatchesUptoRow : OpenClaim := { program := "ytfcbiclmejeihaa", sum := "1eb056dd849f97157c17d5571ca22e137adc0241e0d5401e757a1dc46bf0a893", func := "sluice/sluicelaw9.PileMatches", spec := "pileMatches", unfollowed := true, recurses := true, apart := false, narrowed := true }
def PileMatchesUptoSaid : Prop := pileMatchesUptoRow.holds Try.pinned (OpenSpec.upto pileMatchesSpec)

/-- 'sluicelaw9.PileStable', WHERE WHAT IT READS IS OF BULK AT MOST 1048576: true; the input reads as it did. -/
def pileStableUptoRow : OpenClaim := { program := "ytfcbiclmejeihaa", sum := "1eb056dd849f97157c17d5571ca22e137adc0241e0d5401e757a1dc46bf0a893", func := "sluice/sluicelaw9.PileStable", spec := "pileStable", unfollowed := true, recurses := true, apart := false, narrowed := true }
def PileStableUptoSaid : Prop := pileStableUptoRow.holds Try.pinned (OpenSpec.upto pileStableSpec)

/-- 'sluicelaw9.PilePlays', WHERE WHAT IT READS IS OF BULK AT MOST 1048576: true; the input reads as it did. -/
def pilePlaysUptoRow : OpenClaim := { program := "ytfcbiclmejeihaa", sum := "1eb056dd849f97157c17d5571ca22e137adc0241e0d5401e757a1dc46bf0a893", func := "sluice/sluicelaw9.PilePlays", spec := "pilePlays", unfollowed := true, recurses := true, apart := false, narrowed := true }
def PilePlaysUptoSaid : Prop := pilePlaysUptoRow.holds Try.pinned (OpenSpec.upto pilePlaysSpec)

/-- 'sluicelaw9.PileNames', WHERE WHAT IT READS IS OF BULK AT MOST 1048576: true; the input reads as it did. -/
def pileNamesUptoRow : OpenClaim := { program := "ytfcbiclmejeihaa", sum := "1eb056dd849f97157c17d5571ca22e137adc0241e0d5401e757a1dc46bf0a893", func := "sluice/sluicelaw9.PileNames", spec := "pileNames", unfollowed := true, recurses := true, apart := false, narrowed := true }
def PileNamesUptoSaid : Prop := pileNamesUptoRow.holds Try.pinned (OpenSpec.upto pileNamesSpec)

/-- 'sluicelaw9.PileDrains', WHERE WHAT IT READS IS OF BULK AT MOST 1048576: true; the input reads as it did. -/
def pileDrainsUptoRow : OpenClaim := { program := "ytfcbiclmejeihaa", sum := "1eb056dd849f97157c17d5571ca22e137adc0241e0d5401e757a1dc46bf0a893", func := "sluice/sluicelaw9.PileDrains", spec := "pileDrains", unfollowed := true, recurses := true, apart := false, narrowed := true }
def PileDrainsUptoSaid : Prop := pileDrainsUptoRow.holds Try.pinned (OpenSpec.upto pileDrainsSpec)

/-- 'sluicelaw9.PileAnyOrder', WHERE WHAT IT READS IS OF BULK AT MOST 1048576: true; the input reads as it did. -/
def pileAnyOrderUptoRow : OpenClaim := { program := "ytfcbiclmejeihaa", sum := "1eb056dd849f97157c17d5571ca22e137adc0241e0d5401e757a1dc46bf0a893", func := "sluice/sluicelaw9.PileAnyOrder", spec := "pileAnyOrder", unfollowed := true, recurses := true, apart := false, narrowed := true }
def PileAnyOrderUptoSaid : Prop := pileAnyOrderUptoRow.holds Try.pinned (OpenSpec.upto pileAnyOrderSpec)

/-- 'sluicelaw9.PileFresh', WHERE WHAT IT READS IS OF BULK AT MOST 1048576: true; the input reads as it did. -/
def pileFreshUptoRow : OpenClaim := { program := "ytfcbiclmejeihaa", sum := "1eb056dd849f97157c17d5571ca22e137adc0241e0d5401e757a1dc46bf0a893", func := "sluice/sluicelaw9.PileFresh", spec := "pileFresh", unfollowed := true, recurses := true, apart := false, narrowed := true }
def PileFreshUptoSaid : Prop := pileFreshUptoRow.holds Try.pinned (OpenSpec.upto pileFreshSpec)

end Rows
end Go.Proofs.Ytfcbiclmejeihaa
