/-
  DERIVED. GIVEN WITH THE SEED: THE CARDS: each row of YtolmidffiegkaaaDoorRows.lean that lists a variable, with what it lists TIED to the program's text (the seventh form; the later family's looks); each row that meets fmt, with fmt's text TOLD by the authors' own Lean function (tested against real Go, not proved from fmt's source: count such statements apart). THE CARD IS WHAT COUNTS. Prove the row's statement (the work); the ties are given (YtolmidffiegkaaaDoorTie.lean); close each card by the builder's one call (the guide's Derived/Test/ToyasCard.lean, 'card_holds'). Laid BY PROGRAM, IN A SANDBOX (cutbox-door.mjs). By AI agents, Wed Nov 11 2026. No macro, syntax, notation, axiom, sorry.
-/
import Derived.Test.YtolmidffiegkaaaDoorRows
import GoSem.ClaimSeven
namespace Go.Proofs.YtolmidffiegkaaaDoor
namespace Rows

/-- THE TIED CARD OF 'glosswrightlaw7.QueryOpposed'. -/
def queryOpposedCard : Claim7 := { stood := { row := queryOpposedRow, standIns := [], harness := (true, "50aa9a528600b15e8b66f714ac13147b03569ef32f5d67d5ead5c96130ce3625"), looks := false }, kinds := [], alts := [], laidByText := true, laidKinds := [.data, .data, .data, .pinned], laidTests := true, laidLooks := .later }
def QueryOpposedCardSaid : Prop := Claim7.holds Tryd.pinned (.plain (OpenSpec.ofChange queryOpposedSpec)) queryOpposedCard

/-- THE TIED CARD OF 'glosswrightlaw7.QueryRenamed'. -/
def queryRenamedCard : Claim7 := { stood := { row := queryRenamedRow, standIns := [], harness := (true, "50aa9a528600b15e8b66f714ac13147b03569ef32f5d67d5ead5c96130ce3625"), looks := false }, kinds := [], alts := [], laidByText := true, laidKinds := [.data, .data, .data, .pinned], laidTests := true, laidLooks := .later }
def QueryRenamedCardSaid : Prop := Claim7.holds Tryd.pinned (.plain (OpenSpec.ofChange queryRenamedSpec)) queryRenamedCard

/-- THE TIED CARD OF 'glosswrightlaw7.QueryLeavesAreWords'. -/
def queryLeavesAreWordsCard : Claim7 := { stood := { row := queryLeavesAreWordsRow, standIns := [], harness := (true, "50aa9a528600b15e8b66f714ac13147b03569ef32f5d67d5ead5c96130ce3625"), looks := false }, kinds := [], alts := [], laidByText := true, laidKinds := [.data, .data, .data, .pinned], laidTests := true, laidLooks := .later }
def QueryLeavesAreWordsCardSaid : Prop := Claim7.holds Tryd.pinned (.plain (OpenSpec.ofChange queryLeavesAreWordsSpec)) queryLeavesAreWordsCard

/-- THE SECOND FORM's CARD OF 'glosswrightlaw7.QueryOpposed'. -/
def queryOpposedUptoCard : Claim7 := { stood := { row := queryOpposedUptoRow, standIns := [], harness := (true, "50aa9a528600b15e8b66f714ac13147b03569ef32f5d67d5ead5c96130ce3625"), looks := false }, kinds := [], alts := [], laidByText := true, laidKinds := [.data, .data, .data, .pinned], laidTests := true, laidLooks := .later }
def QueryOpposedUptoCardSaid : Prop := Claim7.holds Tryd.pinned (.plain (OpenSpec.upto queryOpposedSpec)) queryOpposedUptoCard

/-- THE SECOND FORM's CARD OF 'glosswrightlaw7.QueryRenamed'. -/
def queryRenamedUptoCard : Claim7 := { stood := { row := queryRenamedUptoRow, standIns := [], harness := (true, "50aa9a528600b15e8b66f714ac13147b03569ef32f5d67d5ead5c96130ce3625"), looks := false }, kinds := [], alts := [], laidByText := true, laidKinds := [.data, .data, .data, .pinned], laidTests := true, laidLooks := .later }
def QueryRenamedUptoCardSaid : Prop := Claim7.holds Tryd.pinned (.plain (OpenSpec.upto queryRenamedSpec)) queryRenamedUptoCard

/-- THE SECOND FORM's CARD OF 'glosswrightlaw7.QueryLeavesAreWords'. -/
def queryLeavesAreWordsUptoCard : Claim7 := { stood := { row := queryLeavesAreWordsUptoRow, standIns := [], harness := (true, "50aa9a528600b15e8b66f714ac13147b03569ef32f5d67d5ead5c96130ce3625"), looks := false }, kinds := [], alts := [], laidByText := true, laidKinds := [.data, .data, .data, .pinned], laidTests := true, laidLooks := .later }
def QueryLeavesAreWordsUptoCardSaid : Prop := Claim7.holds Tryd.pinned (.plain (OpenSpec.upto queryLeavesAreWordsSpec)) queryLeavesAreWordsUptoCard
end Rows
end Go.Proofs.YtolmidffiegkaaaDoor
