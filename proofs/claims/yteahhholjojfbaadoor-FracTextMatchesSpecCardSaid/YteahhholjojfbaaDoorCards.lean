/-
  DERIVED. GIVEN WITH THE SEED: THE CARDS: each row of YteahhholjojfbaaDoorRows.lean that lists a variable, with what it lists TIED to the program's text (the seventh form; the later family's looks); each row that meets fmt, with fmt's text TOLD by the authors' own Lean function (tested against real Go, not proved from fmt's source: count such statements apart). THE CARD IS WHAT COUNTS. Prove the row's statement (the work); the ties are given (YteahhholjojfbaaDoorTie.lean); close each card by the builder's one call (the guide's Derived/Test/ToyasCard.lean, 'card_holds'). Laid BY PROGRAM, IN A SANDBOX (cutbox-door.mjs). By AI agents, Wed Nov 11 2026. No macro, syntax, notation, axiom, sorry.
-/
import Derived.Test.YteahhholjojfbaaDoorRows
import GoSem.ClaimSeven
namespace Go.Proofs.YteahhholjojfbaaDoor
namespace Rows

/-- THE TIED CARD OF 'glosswrightlaw7.FracTextMatchesSpec'. -/
def fracTextMatchesSpecCard : Claim7 := { stood := { row := fracTextMatchesSpecRow, standIns := [], harness := (true, "aad098853ccc11739159ffeef5db53d316af3c030ea05cda15a16501ea4be71e"), looks := true }, kinds := [], alts := [], laidByText := true, laidKinds := [.data, .data, .data, .sentinel, .sentinel], laidTests := true, laidLooks := .later }
def FracTextMatchesSpecCardSaid : Prop := Claim7.holds Tryd.pinned (.plain (OpenSpec.ofChange fracTextMatchesSpecSpec)) fracTextMatchesSpecCard

/-- THE SECOND FORM's CARD OF 'glosswrightlaw7.FracTextMatchesSpec'. -/
def fracTextMatchesSpecUptoCard : Claim7 := { stood := { row := fracTextMatchesSpecUptoRow, standIns := [], harness := (true, "aad098853ccc11739159ffeef5db53d316af3c030ea05cda15a16501ea4be71e"), looks := true }, kinds := [], alts := [], laidByText := true, laidKinds := [.data, .data, .data, .sentinel, .sentinel], laidTests := true, laidLooks := .later }
def FracTextMatchesSpecUptoCardSaid : Prop := Claim7.holds Tryd.pinned (.plain (OpenSpec.upto fracTextMatchesSpecSpec)) fracTextMatchesSpecUptoCard
end Rows
end Go.Proofs.YteahhholjojfbaaDoor
