/-
  DERIVED. GIVEN WITH THE SEED: THE CARDS: each row of YtngmlmfkegoghaaDoorRows.lean that lists a variable, with what it lists TIED to the program's text (the seventh form; the later family's looks); each row that meets fmt, with fmt's text TOLD by the authors' own Lean function (tested against real Go, not proved from fmt's source: count such statements apart). THE CARD IS WHAT COUNTS. Prove the row's statement (the work); the ties are given (YtngmlmfkegoghaaDoorTie.lean); close each card by the builder's one call (the guide's Derived/Test/ToyasCard.lean, 'card_holds'). Laid BY PROGRAM, IN A SANDBOX (cutbox-door.mjs). By AI agents, Wed Nov 11 2026. No macro, syntax, notation, axiom, sorry.
-/
import Derived.Test.YtngmlmfkegoghaaDoorRows
import GoSem.ClaimSeven
namespace Go.Proofs.YtngmlmfkegoghaaDoor
namespace Rows

/-- THE TIED CARD OF 'sluicetop.Names'. -/
def namesCard : Claim7 := { stood := { row := namesRow, standIns := [], harness := (true, "bf5030d8444b49b352e8cbb05e7dc1c10914bba7a63faef4c642b3757418ffe6"), looks := false }, kinds := [], alts := [], laidByText := true, laidKinds := [.data], laidTests := true, laidLooks := .later }
def NamesCardSaid : Prop := Claim7.holds Tryd.pinned (.plain (OpenSpec.ofChange namesSpec)) namesCard

/-- THE TIED CARD OF 'sluicetop.TopLine'. -/
def topLineCard : Claim7 := { stood := { row := topLineRow, standIns := [], harness := (true, "bf5030d8444b49b352e8cbb05e7dc1c10914bba7a63faef4c642b3757418ffe6"), looks := false }, kinds := [], alts := [], laidByText := true, laidKinds := [.data, .data, .data], laidTests := true, laidLooks := .later }
def TopLineCardSaid : Prop := Claim7.holds Tryd.pinned (.plain (OpenSpec.ofChange topLineSpec)) topLineCard

/-- THE SECOND FORM's CARD OF 'sluicetop.Names'. -/
def namesUptoCard : Claim7 := { stood := { row := namesUptoRow, standIns := [], harness := (true, "bf5030d8444b49b352e8cbb05e7dc1c10914bba7a63faef4c642b3757418ffe6"), looks := false }, kinds := [], alts := [], laidByText := true, laidKinds := [.data], laidTests := true, laidLooks := .later }
def NamesUptoCardSaid : Prop := Claim7.holds Tryd.pinned (.plain (OpenSpec.upto namesSpec)) namesUptoCard

/-- THE SECOND FORM's CARD OF 'sluicetop.TopLine'. -/
def topLineUptoCard : Claim7 := { stood := { row := topLineUptoRow, standIns := [], harness := (true, "bf5030d8444b49b352e8cbb05e7dc1c10914bba7a63faef4c642b3757418ffe6"), looks := false }, kinds := [], alts := [], laidByText := true, laidKinds := [.data, .data, .data], laidTests := true, laidLooks := .later }
def TopLineUptoCardSaid : Prop := Claim7.holds Tryd.pinned (.plain (OpenSpec.upto topLineSpec)) topLineUptoCard
end Rows
end Go.Proofs.YtngmlmfkegoghaaDoor
