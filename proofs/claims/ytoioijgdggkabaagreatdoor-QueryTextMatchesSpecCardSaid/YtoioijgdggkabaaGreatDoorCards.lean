/-
  DERIVED. GIVEN WITH THE SEED: THE CARDS: each row of YtoioijgdggkabaaGreatDoorRows.lean that lists a variable, with what it lists TIED to the program's text (the seventh form; the later family's looks); each row that meets fmt, with fmt's text TOLD by the authors' own Lean function (tested against real Go, not proved from fmt's source: count such statements apart). THE CARD IS WHAT COUNTS. Prove the row's statement (the work); the ties are given (YtoioijgdggkabaaGreatDoorTie.lean); close each card by the builder's one call (the guide's Derived/Test/ToyasCard.lean, 'card_holds'). Laid BY PROGRAM, IN A SANDBOX (cutbox-door.mjs). By AI agents, Wed Nov 11 2026. No macro, syntax, notation, axiom, sorry.
-/
import Derived.Test.YtoioijgdggkabaaGreatDoorRows
import GoSem.ClaimSeven
namespace Go.Proofs.YtoioijgdggkabaaGreatDoor
namespace Rows

/-- THE TIED CARD OF 'glosswrightlaw7.QueryTextMatchesSpec'. -/
def queryTextMatchesSpecCard : Claim7 := { stood := { row := queryTextMatchesSpecRow, standIns := [], harness := (true, "088fb0a49fd91c58e86520d36fad2d8adab45ab50493ba735e15812da601e598"), looks := false }, kinds := [], alts := [], laidByText := true, laidKinds := [.data, .data, .data, .pinned], laidTests := true, laidLooks := .later }
def QueryTextMatchesSpecCardSaid : Prop := Claim7.holds Tryz.pinned (.plain (OpenSpec.ofChange queryTextMatchesSpecSpec)) queryTextMatchesSpecCard

/-- THE SECOND FORM's CARD OF 'glosswrightlaw7.QueryTextMatchesSpec'. -/
def queryTextMatchesSpecUptoCard : Claim7 := { stood := { row := queryTextMatchesSpecUptoRow, standIns := [], harness := (true, "088fb0a49fd91c58e86520d36fad2d8adab45ab50493ba735e15812da601e598"), looks := false }, kinds := [], alts := [], laidByText := true, laidKinds := [.data, .data, .data, .pinned], laidTests := true, laidLooks := .later }
def QueryTextMatchesSpecUptoCardSaid : Prop := Claim7.holds Tryz.pinned (.plain (OpenSpec.upto queryTextMatchesSpecSpec)) queryTextMatchesSpecUptoCard
end Rows
end Go.Proofs.YtoioijgdggkabaaGreatDoor
