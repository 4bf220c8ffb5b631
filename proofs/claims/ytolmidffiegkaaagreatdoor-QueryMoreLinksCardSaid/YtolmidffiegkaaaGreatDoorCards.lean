/-
  DERIVED. GIVEN WITH THE SEED: THE CARDS: each row of YtolmidffiegkaaaGreatDoorRows.lean that lists a variable, with what it lists TIED to the program's text (the seventh form; the later family's looks); each row that meets fmt, with fmt's text TOLD by the authors' own Lean function (tested against real Go, not proved from fmt's source: count such statements apart). THE CARD IS WHAT COUNTS. Prove the row's statement (the work); the ties are given (YtolmidffiegkaaaGreatDoorTie.lean); close each card by the builder's one call (the guide's Derived/Test/ToyasCard.lean, 'card_holds'). Laid BY PROGRAM, IN A SANDBOX (cutbox-door.mjs). By AI agents, Wed Nov 11 2026. No macro, syntax, notation, axiom, sorry.
-/
import Derived.Test.YtolmidffiegkaaaGreatDoorRows
import GoSem.ClaimSeven
namespace Go.Proofs.YtolmidffiegkaaaGreatDoor
namespace Rows

/-- THE TIED CARD OF 'glosswrightlaw7.QueryMatchesSpec'. -/
def queryMatchesSpecCard : Claim7 := { stood := { row := queryMatchesSpecRow, standIns := [], harness := (true, "ad7579b7b09f8685a6a353db787568a271458273348484b9dbb4bd061f222b48"), looks := false }, kinds := [], alts := [], laidByText := true, laidKinds := [.data, .data, .data, .pinned], laidTests := true, laidLooks := .later }
def QueryMatchesSpecCardSaid : Prop := Claim7.holds Tryz.pinned (.plain (OpenSpec.ofChange queryMatchesSpecSpec)) queryMatchesSpecCard

/-- THE TIED CARD OF 'glosswrightlaw7.QueryMoreLinks'. -/
def queryMoreLinksCard : Claim7 := { stood := { row := queryMoreLinksRow, standIns := [], harness := (true, "ad7579b7b09f8685a6a353db787568a271458273348484b9dbb4bd061f222b48"), looks := false }, kinds := [], alts := [], laidByText := true, laidKinds := [.data, .data, .data, .pinned], laidTests := true, laidLooks := .later }
def QueryMoreLinksCardSaid : Prop := Claim7.holds Tryz.pinned (.plain (OpenSpec.ofChange queryMoreLinksSpec)) queryMoreLinksCard

/-- THE TIED CARD OF 'glosswrightlaw7.QueryTextMatchesSpec'. -/
def queryTextMatchesSpecCard : Claim7 := { stood := { row := queryTextMatchesSpecRow, standIns := [], harness := (true, "ad7579b7b09f8685a6a353db787568a271458273348484b9dbb4bd061f222b48"), looks := false }, kinds := [], alts := [], laidByText := true, laidKinds := [.data, .data, .data, .pinned], laidTests := true, laidLooks := .later }
def QueryTextMatchesSpecCardSaid : Prop := Claim7.holds Tryz.pinned (.plain (OpenSpec.ofChange queryTextMatchesSpecSpec)) queryTextMatchesSpecCard

/-- THE SECOND FORM's CARD OF 'glosswrightlaw7.QueryMatchesSpec'. -/
def queryMatchesSpecUptoCard : Claim7 := { stood := { row := queryMatchesSpecUptoRow, standIns := [], harness := (true, "ad7579b7b09f8685a6a353db787568a271458273348484b9dbb4bd061f222b48"), looks := false }, kinds := [], alts := [], laidByText := true, laidKinds := [.data, .data, .data, .pinned], laidTests := true, laidLooks := .later }
def QueryMatchesSpecUptoCardSaid : Prop := Claim7.holds Tryz.pinned (.plain (OpenSpec.upto queryMatchesSpecSpec)) queryMatchesSpecUptoCard

/-- THE SECOND FORM's CARD OF 'glosswrightlaw7.QueryMoreLinks'. -/
def queryMoreLinksUptoCard : Claim7 := { stood := { row := queryMoreLinksUptoRow, standIns := [], harness := (true, "ad7579b7b09f8685a6a353db787568a271458273348484b9dbb4bd061f222b48"), looks := false }, kinds := [], alts := [], laidByText := true, laidKinds := [.data, .data, .data, .pinned], laidTests := true, laidLooks := .later }
def QueryMoreLinksUptoCardSaid : Prop := Claim7.holds Tryz.pinned (.plain (OpenSpec.upto queryMoreLinksSpec)) queryMoreLinksUptoCard

/-- THE SECOND FORM's CARD OF 'glosswrightlaw7.QueryTextMatchesSpec'. -/
def queryTextMatchesSpecUptoCard : Claim7 := { stood := { row := queryTextMatchesSpecUptoRow, standIns := [], harness := (true, "ad7579b7b09f8685a6a353db787568a271458273348484b9dbb4bd061f222b48"), looks := false }, kinds := [], alts := [], laidByText := true, laidKinds := [.data, .data, .data, .pinned], laidTests := true, laidLooks := .later }
def QueryTextMatchesSpecUptoCardSaid : Prop := Claim7.holds Tryz.pinned (.plain (OpenSpec.upto queryTextMatchesSpecSpec)) queryTextMatchesSpecUptoCard
end Rows
end Go.Proofs.YtolmidffiegkaaaGreatDoor
