/-
  No cell of these rows narrows 'for every input' (looked for: loops, veiled, ifaces, maps, wideKeys, modest, calm, conditions, laid).
  DERIVED. THE GIVEN ROWS OF THIS SEAT. 9 by the template 'for every input the law returns true; each argument reads behind the call as it read before'; 0 by the template 'total and deterministic' (their statements: YtpnigekkbmanlaaTotals.lean).
  GIVEN WITH THE SEED: the statements are not yours to turn. If you find one false, say at which input.
  Laid BY PROGRAM, IN A SANDBOX (cutbox-rows.mjs): the forced cells as the released guide's own fill.sh prints them over the translation d233a3a9da63d071… (all of the seat's roots in one cut). By AI agents, Wed Nov 11 2026. No macro, syntax, notation, axiom, sorry.
-/
import Derived.Test.YtpnigekkbmanlaaChecked
import GoSem.Claim
import GoSem.ClaimJoined
import GoSem.ClaimMapViews
import Derived.JoinedTies
import Derived.KernelRfl
namespace Go.Proofs.Ytpnigekkbmanlaa
/- THE CELL 'sum', in the pinned program and in every row, IS THE sha256 OF THE DUMP (.gsa) THAT YtpnigekkbmanlaaProg.lean LOADS. Nothing in Lean hashes anything: it is a label: what it is worth is what the hold of that sum in a sandbox is worth. -/
noncomputable def Try.pinned : Pinned := { name := "ytpnigekkbmanlaa", sum := "d233a3a9da63d07107b5da243a69d38f3c18f15144bfa3d21e362286f9655896", checked := Try.checked }
namespace Rows
def none {H : Type} : Left H := { results := [], args := [] }

/-- 'sluicelaw14.DueMerges': WHATEVER THE INPUT: true; the input reads as it did. -/
def dueMergesSpec : ChangeSpec := { name := "dueMerges", fn := fun _ => fun
  | [d] => { results := [.lit (.bool true)], args := [d] }
  | _ => none }
def dueMergesRow : OpenClaim := { program := "ytpnigekkbmanlaa", sum := "d233a3a9da63d07107b5da243a69d38f3c18f15144bfa3d21e362286f9655896", func := "sluice/sluicelaw14.DueMerges", spec := "dueMerges", unfollowed := true, recurses := true, plainKeys := false, apart := false }
def DueMergesSaid : Prop := dueMergesRow.holds Try.pinned (OpenSpec.ofChange dueMergesSpec)

/-- ITS FALSE NEIGHBOUR: 'it returns false'. Refute it at one input. -/
def dueMergesWrong : ChangeSpec := { name := "dueMerges", fn := fun _ => fun
  | [d] => { results := [.lit (.bool false)], args := [d] }
  | _ => none }
def DueMergesWrongFalsely : Prop := dueMergesRow.holds Try.pinned (OpenSpec.ofChange dueMergesWrong)

/-- 'sluicelaw14.DueSorted': WHATEVER THE INPUT: true; the input reads as it did. -/
def dueSortedSpec : ChangeSpec := { name := "dueSorted", fn := fun _ => fun
  | [d] => { results := [.lit (.bool true)], args := [d] }
  | _ => none }
def dueSortedRow : OpenClaim := { program := "ytpnigekkbmanlaa", sum := "d233a3a9da63d07107b5da243a69d38f3c18f15144bfa3d21e362286f9655896", func := "sluice/sluicelaw14.DueSorted", spec := "dueSorted", unfollowed := true, recurses := true, plainKeys := false, apart := false }
def DueSortedSaid : Prop := dueSortedRow.holds Try.pinned (OpenSpec.ofChange dueSortedSpec)

/-- ITS FALSE NEIGHBOUR: 'it returns false'. Refute it at one input. -/
def dueSortedWrong : ChangeSpec := { name := "dueSorted", fn := fun _ => fun
  | [d] => { results := [.lit (.bool false)], args := [d] }
  | _ => none }
def DueSortedWrongFalsely : Prop := dueSortedRow.holds Try.pinned (OpenSpec.ofChange dueSortedWrong)

/-- 'sluicelaw14.DueApart': WHATEVER THE INPUT: true; the input reads as it did. -/
def dueApartSpec : ChangeSpec := { name := "dueApart", fn := fun _ => fun
  | [d1, d2, d3] => { results := [.lit (.bool true)], args := [d1, d2, d3] }
  | _ => none }
def dueApartRow : OpenClaim := { program := "ytpnigekkbmanlaa", sum := "d233a3a9da63d07107b5da243a69d38f3c18f15144bfa3d21e362286f9655896", func := "sluice/sluicelaw14.DueApart", spec := "dueApart", unfollowed := true, recurses := true, plainKeys := false, apart := false }
def DueApartSaid : Prop := dueApartRow.holds Try.pinned (OpenSpec.ofChange dueApartSpec)

/-- ITS FALSE NEIGHBOUR: 'it returns false'. Refute it at one input. -/
def dueApartWrong : ChangeSpec := { name := "dueApart", fn := fun _ => fun
  | [d1, d2, d3] => { results := [.lit (.bool false)], args := [d1, d2, d3] }
  | _ => none }
def DueApartWrongFalsely : Prop := dueApartRow.holds Try.pinned (OpenSpec.ofChange dueApartWrong)

/-- 'sluicelaw14.DueOrderless': WHATEVER THE INPUT: true; the input reads as it did. -/
def dueOrderlessSpec : ChangeSpec := { name := "dueOrderless", fn := fun _ => fun
  | [d1, d2, d3] => { results := [.lit (.bool true)], args := [d1, d2, d3] }
  | _ => none }
def dueOrderlessRow : OpenClaim := { program := "ytpnigekkbmanlaa", sum := "d233a3a9da63d07107b5da243a69d38f3c18f15144bfa3d21e362286f9655896", func := "sluice/sluicelaw14.DueOrderless", spec := "dueOrderless", unfollowed := true, recurses := true, plainKeys := false, apart := false }
def DueOrderlessSaid : Prop := dueOrderlessRow.holds Try.pinned (OpenSpec.ofChange dueOrderlessSpec)

/-- ITS FALSE NEIGHBOUR: 'it returns false'. Refute it at one input. -/
def dueOrderlessWrong : ChangeSpec := { name := "dueOrderless", fn := fun _ => fun
  | [d1, d2, d3] => { results := [.lit (.bool false)], args := [d1, d2, d3] }
  | _ => none }
def DueOrderlessWrongFalsely : Prop := dueOrderlessRow.holds Try.pinned (OpenSpec.ofChange dueOrderlessWrong)

/-- 'sluicelaw14.DueFirm': WHATEVER THE INPUT: true; the input reads as it did. -/
def dueFirmSpec : ChangeSpec := { name := "dueFirm", fn := fun _ => fun
  | [d] => { results := [.lit (.bool true)], args := [d] }
  | _ => none }
def dueFirmRow : OpenClaim := { program := "ytpnigekkbmanlaa", sum := "d233a3a9da63d07107b5da243a69d38f3c18f15144bfa3d21e362286f9655896", func := "sluice/sluicelaw14.DueFirm", spec := "dueFirm", unfollowed := true, recurses := true, plainKeys := false, apart := false }
def DueFirmSaid : Prop := dueFirmRow.holds Try.pinned (OpenSpec.ofChange dueFirmSpec)

/-- ITS FALSE NEIGHBOUR: 'it returns false'. Refute it at one input. -/
def dueFirmWrong : ChangeSpec := { name := "dueFirm", fn := fun _ => fun
  | [d] => { results := [.lit (.bool false)], args := [d] }
  | _ => none }
def DueFirmWrongFalsely : Prop := dueFirmRow.holds Try.pinned (OpenSpec.ofChange dueFirmWrong)

/-- 'sluicelaw14.DuePlays': WHATEVER THE INPUT: true; the input reads as it did. -/
def duePlaysSpec : ChangeSpec := { name := "duePlays", fn := fun _ => fun
  | [d] => { results := [.lit (.bool true)], args := [d] }
  | _ => none }
def duePlaysRow : OpenClaim := { program := "ytpnigekkbmanlaa", sum := "d233a3a9da63d07107b5da243a69d38f3c18f15144bfa3d21e362286f9655896", func := "sluice/sluicelaw14.DuePlays", spec := "duePlays", unfollowed := true, recurses := true, plainKeys := false, apart := false }
def DuePlaysSaid : Prop := duePlaysRow.holds Try.pinned (OpenSpec.ofChange duePlaysSpec)

/-- ITS FALSE NEIGHBOUR: 'it returns false'. Refute it at one input. -/
def duePlaysWrong : ChangeSpec := { name := "duePlays", fn := fun _ => fun
  | [d] => { results := [.lit (.bool false)], args := [d] }
  | _ => none }
def DuePlaysWrongFalsely : Prop := duePlaysRow.holds Try.pinned (OpenSpec.ofChange duePlaysWrong)

/-- 'sluicelaw14.DueOnce': WHATEVER THE INPUT: true; the input reads as it did. -/
def dueOnceSpec : ChangeSpec := { name := "dueOnce", fn := fun _ => fun
  | [d1, d2] => { results := [.lit (.bool true)], args := [d1, d2] }
  | _ => none }
def dueOnceRow : OpenClaim := { program := "ytpnigekkbmanlaa", sum := "d233a3a9da63d07107b5da243a69d38f3c18f15144bfa3d21e362286f9655896", func := "sluice/sluicelaw14.DueOnce", spec := "dueOnce", unfollowed := true, recurses := true, plainKeys := false, apart := false }
def DueOnceSaid : Prop := dueOnceRow.holds Try.pinned (OpenSpec.ofChange dueOnceSpec)

/-- ITS FALSE NEIGHBOUR: 'it returns false'. Refute it at one input. -/
def dueOnceWrong : ChangeSpec := { name := "dueOnce", fn := fun _ => fun
  | [d1, d2] => { results := [.lit (.bool false)], args := [d1, d2] }
  | _ => none }
def DueOnceWrongFalsely : Prop := dueOnceRow.holds Try.pinned (OpenSpec.ofChange dueOnceWrong)

/-- 'sluicelaw14.DueSplits': WHATEVER THE INPUT: true; the input reads as it did. -/
def dueSplitsSpec : ChangeSpec := { name := "dueSplits", fn := fun _ => fun
  | [d1, d2, d3] => { results := [.lit (.bool true)], args := [d1, d2, d3] }
  | _ => none }
def dueSplitsRow : OpenClaim := { program := "ytpnigekkbmanlaa", sum := "d233a3a9da63d07107b5da243a69d38f3c18f15144bfa3d21e362286f9655896", func := "sluice/sluicelaw14.DueSplits", spec := "dueSplits", unfollowed := true, recurses := true, plainKeys := false, apart := false }
def DueSplitsSaid : Prop := dueSplitsRow.holds Try.pinned (OpenSpec.ofChange dueSplitsSpec)

/-- ITS FALSE NEIGHBOUR: 'it returns false'. Refute it at one input. -/
def dueSplitsWrong : ChangeSpec := { name := "dueSplits", fn := fun _ => fun
  | [d1, d2, d3] => { results := [.lit (.bool false)], args := [d1, d2, d3] }
  | _ => none }
def DueSplitsWrongFalsely : Prop := dueSplitsRow.holds Try.pinned (OpenSpec.ofChange dueSplitsWrong)

/-- 'sluicelaw14.DueOwn': WHATEVER THE INPUT: true; the input reads as it did. -/
def dueOwnSpec : ChangeSpec := { name := "dueOwn", fn := fun _ => fun
  | [d1, d2] => { results := [.lit (.bool true)], args := [d1, d2] }
  | _ => none }
def dueOwnRow : OpenClaim := { program := "ytpnigekkbmanlaa", sum := "d233a3a9da63d07107b5da243a69d38f3c18f15144bfa3d21e362286f9655896", func := "sluice/sluicelaw14.DueOwn", spec := "dueOwn", unfollowed := true, recurses := true, plainKeys := false, apart := false }
def DueOwnSaid : Prop := dueOwnRow.holds Try.pinned (OpenSpec.ofChange dueOwnSpec)

/-- ITS FALSE NEIGHBOUR: 'it returns false'. Refute it at one input. -/
def dueOwnWrong : ChangeSpec := { name := "dueOwn", fn := fun _ => fun
  | [d1, d2] => { results := [.lit (.bool false)], args := [d1, d2] }
  | _ => none }
def DueOwnWrongFalsely : Prop := dueOwnRow.holds Try.pinned (OpenSpec.ofChange dueOwnWrong)

/- THE SECOND FORM. 'bulk': how many values and letters a reading holds, each counted each time it is reached (what is shared counts as often as it is met; a slice's spare places count too). A statement '..UptoSaid' is the law's where the arguments, and the package variables that the reading takes, are together of bulk at most 1048576: NARROWER than '..Said'. Prove '..Said' where nothing that the law and all that it calls make is longer than what came in: it says more and counts as full. Else prove '..UptoSaid'. A law counts once. -/
mutual
def uptoBulk {H : Type} : DataW H → Nat
  | .lit (.string bytes) => bytes.length + 1
  | .lit _ => 1
  | .nil => 1
  | .ptr d => uptoBulk d + 1
  | .slice elems spare => uptoBulkAll elems + uptoBulkAll spare + 1
  | .agg parts => uptoBulkAll parts + 1
  | .iface _ d => uptoBulk d + 1
  | .map entries => uptoBulkEntries entries + 1
  | .held _ => 1
def uptoBulkAll {H : Type} : List (DataW H) → Nat
  | [] => 0
  | d :: r => uptoBulk d + uptoBulkAll r
def uptoBulkEntries {H : Type} : List (Lit × DataW H) → Nat
  | [] => 0
  | x :: r => uptoBulkEntry x + uptoBulkEntries r
def uptoBulkEntry {H : Type} : Lit × DataW H → Nat
  | (.string bytes, d) => bytes.length + uptoBulk d + 1
  | (_, d) => uptoBulk d + 1
 end
def uptoSmall : (H : Type) → List (DataW H) → Bool := fun _ ds => decide (uptoBulkAll ds ≤ 1048576)
def OpenSpec.upto (s : _root_.Go.ChangeSpec) : _root_.Go.OpenSpec := { _root_.Go.OpenSpec.ofChange s with cond := some uptoSmall }

/-- 'sluicelaw14.DueMerges', WHERE WHAT IT READS IS OF BULK AT MOST 1048576: true; the input reads as it did. -/
def dueMergesUptoRow : OpenClaim := { program := "ytpnigekkbmanlaa", sum := "d233a3a9da63d07107b5da243a69d38f3c18f15144bfa3d21e362286f9655896", func := "sluice/sluicelaw14.DueMerges", spec := "dueMerges", unfollowed := true, recurses := true, plainKeys := false, apart := false, narrowed := true }
def DueMergesUptoSaid : Prop := dueMergesUptoRow.holds Try.pinned (OpenSpec.upto dueMergesSpec)

/-- 'sluicelaw14.DueSorted', WHERE WHAT IT READS IS OF BULK AT MOST 1048576: true; the input reads as it did. -/
def dueSortedUptoRow : OpenClaim := { program := "ytpnigekkbmanlaa", sum := "d233a3a9da63d07107b5da243a69d38f3c18f15144bfa3d21e362286f9655896", func := "sluice/sluicelaw14.DueSorted", spec := "dueSorted", unfollowed := true, recurses := true, plainKeys := false, apart := false, narrowed := true }
def DueSortedUptoSaid : Prop := dueSortedUptoRow.holds Try.pinned (OpenSpec.upto dueSortedSpec)

/-- 'sluicelaw14.DueApart', WHERE WHAT IT READS IS OF BULK AT MOST 1048576: true; the input reads as it did. -/
def dueApartUptoRow : OpenClaim := { program := "ytpnigekkbmanlaa", sum := "d233a3a9da63d07107b5da243a69d38f3c18f15144bfa3d21e362286f9655896", func := "sluice/sluicelaw14.DueApart", spec := "dueApart", unfollowed := true, recurses := true, plainKeys := false, apart := false, narrowed := true }
def DueApartUptoSaid : Prop := dueApartUptoRow.holds Try.pinned (OpenSpec.upto dueApartSpec)

/-- 'sluicelaw14.DueOrderless', WHERE WHAT IT READS IS OF BULK AT MOST 1048576: true; the input reads as it did. -/
def dueOrderlessUptoRow : OpenClaim := { program := "ytpnigekkbmanlaa", sum := "d233a3a9da63d07107b5da243a69d38f3c18f15144bfa3d21e362286f9655896", func := "sluice/sluicelaw14.DueOrderless", spec := "dueOrderless", unfollowed := true, recurses := true, plainKeys := false, apart := false, narrowed := true }
def DueOrderlessUptoSaid : Prop := dueOrderlessUptoRow.holds Try.pinned (OpenSpec.upto dueOrderlessSpec)

/-- 'sluicelaw14.DueFirm', WHERE WHAT IT READS IS OF BULK AT MOST 1048576: true; the input reads as it did. -/
def dueFirmUptoRow : OpenClaim := { program := "ytpnigekkbmanlaa", sum := "d233a3a9da63d07107b5da243a69d38f3c18f15144bfa3d21e362286f9655896", func := "sluice/sluicelaw14.DueFirm", spec := "dueFirm", unfollowed := true, recurses := true, plainKeys := false, apart := false, narrowed := true }
def DueFirmUptoSaid : Prop := dueFirmUptoRow.holds Try.pinned (OpenSpec.upto dueFirmSpec)

/-- 'sluicelaw14.DuePlays', WHERE WHAT IT READS IS OF BULK AT MOST 1048576: true; the input reads as it did. -/
def duePlaysUptoRow : OpenClaim := { program := "ytpnigekkbmanlaa", sum := "d233a3a9da63d07107b5da243a69d38f3c18f15144bfa3d21e362286f9655896", func := "sluice/sluicelaw14.DuePlays", spec := "duePlays", unfollowed := true, recurses := true, plainKeys := false, apart := false, narrowed := true }
def DuePlaysUptoSaid : Prop := duePlaysUptoRow.holds Try.pinned (OpenSpec.upto duePlaysSpec)

/-- 'sluicelaw14.DueOnce', WHERE WHAT IT READS IS OF BULK AT MOST 1048576: true; the input reads as it did. -/
def dueOnceUptoRow : OpenClaim := { program := "ytpnigekkbmanlaa", sum := "d233a3a9da63d07107b5da243a69d38f3c18f15144bfa3d21e362286f9655896", func := "sluice/sluicelaw14.DueOnce", spec := "dueOnce", unfollowed := true, recurses := true, plainKeys := false, apart := false, narrowed := true }
def DueOnceUptoSaid : Prop := dueOnceUptoRow.holds Try.pinned (OpenSpec.upto dueOnceSpec)

/-- 'sluicelaw14.DueSplits', WHERE WHAT IT READS IS OF BULK AT MOST 1048576: true; the input reads as it did. -/
def dueSplitsUptoRow : OpenClaim := { program := "ytpnigekkbmanlaa", sum := "d233a3a9da63d07107b5da243a69d38f3c18f15144bfa3d21e362286f9655896", func := "sluice/sluicelaw14.DueSplits", spec := "dueSplits", unfollowed := true, recurses := true, plainKeys := false, apart := false, narrowed := true }
def DueSplitsUptoSaid : Prop := dueSplitsUptoRow.holds Try.pinned (OpenSpec.upto dueSplitsSpec)

/-- 'sluicelaw14.DueOwn', WHERE WHAT IT READS IS OF BULK AT MOST 1048576: true; the input reads as it did. -/
def dueOwnUptoRow : OpenClaim := { program := "ytpnigekkbmanlaa", sum := "d233a3a9da63d07107b5da243a69d38f3c18f15144bfa3d21e362286f9655896", func := "sluice/sluicelaw14.DueOwn", spec := "dueOwn", unfollowed := true, recurses := true, plainKeys := false, apart := false, narrowed := true }
def DueOwnUptoSaid : Prop := dueOwnUptoRow.holds Try.pinned (OpenSpec.upto dueOwnSpec)

end Rows
end Go.Proofs.Ytpnigekkbmanlaa
