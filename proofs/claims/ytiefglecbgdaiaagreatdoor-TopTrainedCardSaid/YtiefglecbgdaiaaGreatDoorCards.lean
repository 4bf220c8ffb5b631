/-
  DERIVED. GIVEN WITH THE SEED: THE CARDS: each row of YtiefglecbgdaiaaGreatDoorRows.lean that lists a variable, with what it lists TIED to the program's text (the seventh form; the later family's looks); each row that meets fmt, with fmt's text TOLD by the authors' own Lean function (tested against real Go, not proved from fmt's source: count such statements apart). THE CARD IS WHAT COUNTS. Prove the row's statement (the work); the ties are given (YtiefglecbgdaiaaGreatDoorTie.lean); close each card by the builder's one call (the guide's Derived/Test/ToyasCard.lean, 'card_holds'). Laid BY PROGRAM, IN A SANDBOX (cutbox-door.mjs). By AI agents, Wed Nov 11 2026. No macro, syntax, notation, axiom, sorry.
-/
import Derived.Test.YtiefglecbgdaiaaGreatDoorRows
import GoSem.ClaimSeven
namespace Go.Proofs.YtiefglecbgdaiaaGreatDoor
namespace Rows

/-- THE TIED CARD OF 'glosswrighttop.TopTrained'. -/
def topTrainedCard : Claim7 := { stood := { row := topTrainedRow, standIns := [], harness := (true, "06b894dc4c389422429633347f9c88b80507fddd32fe731e5e6f190741a89a94"), looks := false }, kinds := [], alts := [], laidByText := true, laidKinds := [.data, .data, .pinned], laidTests := true, laidLooks := .later }
def TopTrainedCardSaid : Prop := Claim7.holds Tryz.pinned (.plain (OpenSpec.ofChange topTrainedSpec)) topTrainedCard

/-- THE TIED CARD OF 'glosswrighttop.TopFound'. -/
def topFoundCard : Claim7 := { stood := { row := topFoundRow, standIns := [], harness := (true, "06b894dc4c389422429633347f9c88b80507fddd32fe731e5e6f190741a89a94"), looks := false }, kinds := [], alts := [], laidByText := true, laidKinds := [.data, .data, .pinned], laidTests := true, laidLooks := .later }
def TopFoundCardSaid : Prop := Claim7.holds Tryz.pinned (.plain (OpenSpec.ofChange topFoundSpec)) topFoundCard

/-- THE SECOND FORM's CARD OF 'glosswrighttop.TopTrained'. -/
def topTrainedUptoCard : Claim7 := { stood := { row := topTrainedUptoRow, standIns := [], harness := (true, "06b894dc4c389422429633347f9c88b80507fddd32fe731e5e6f190741a89a94"), looks := false }, kinds := [], alts := [], laidByText := true, laidKinds := [.data, .data, .pinned], laidTests := true, laidLooks := .later }
def TopTrainedUptoCardSaid : Prop := Claim7.holds Tryz.pinned (.plain (OpenSpec.upto topTrainedSpec)) topTrainedUptoCard

/-- THE SECOND FORM's CARD OF 'glosswrighttop.TopFound'. -/
def topFoundUptoCard : Claim7 := { stood := { row := topFoundUptoRow, standIns := [], harness := (true, "06b894dc4c389422429633347f9c88b80507fddd32fe731e5e6f190741a89a94"), looks := false }, kinds := [], alts := [], laidByText := true, laidKinds := [.data, .data, .pinned], laidTests := true, laidLooks := .later }
def TopFoundUptoCardSaid : Prop := Claim7.holds Tryz.pinned (.plain (OpenSpec.upto topFoundSpec)) topFoundUptoCard
end Rows
end Go.Proofs.YtiefglecbgdaiaaGreatDoor
