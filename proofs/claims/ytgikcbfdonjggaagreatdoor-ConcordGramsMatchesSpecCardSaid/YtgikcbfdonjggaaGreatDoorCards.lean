/-
  DERIVED. GIVEN WITH THE SEED: THE CARDS: each row of YtgikcbfdonjggaaGreatDoorRows.lean that lists a variable, with what it lists TIED to the program's text (the seventh form; the later family's looks); each row that meets fmt, with fmt's text TOLD by the authors' own Lean function (tested against real Go, not proved from fmt's source: count such statements apart). THE CARD IS WHAT COUNTS. Prove the row's statement (the work); the ties are given (YtgikcbfdonjggaaGreatDoorTie.lean); close each card by the builder's one call (the guide's Derived/Test/ToyasCard.lean, 'card_holds'). Laid BY PROGRAM, IN A SANDBOX (cutbox-door.mjs). By AI agents, Wed Nov 11 2026. No macro, syntax, notation, axiom, sorry.
-/
import Derived.Test.YtgikcbfdonjggaaGreatDoorRows
import GoSem.ClaimSeven
namespace Go.Proofs.YtgikcbfdonjggaaGreatDoor
namespace Rows

/-- THE TIED CARD OF 'glosswrightlaw7.ConcordHitsMatchesSpec'. -/
def concordHitsMatchesSpecCard : Claim7 := { stood := { row := concordHitsMatchesSpecRow, standIns := [], harness := (true, "332cb5fe69f325910ecab3e556c5957380ceca3c2cd7fa58bfd9fc80e2a2040b"), looks := false }, kinds := [], alts := [], laidByText := true, laidKinds := [.data, .pinned], laidTests := true, laidLooks := .later }
def ConcordHitsMatchesSpecCardSaid : Prop := Claim7.holds Tryz.pinned (.plain (OpenSpec.ofChange concordHitsMatchesSpecSpec)) concordHitsMatchesSpecCard

/-- THE TIED CARD OF 'glosswrightlaw7.ConcordTogether'. -/
def concordTogetherCard : Claim7 := { stood := { row := concordTogetherRow, standIns := [], harness := (true, "332cb5fe69f325910ecab3e556c5957380ceca3c2cd7fa58bfd9fc80e2a2040b"), looks := false }, kinds := [], alts := [], laidByText := true, laidKinds := [.data, .pinned], laidTests := true, laidLooks := .later }
def ConcordTogetherCardSaid : Prop := Claim7.holds Tryz.pinned (.plain (OpenSpec.ofChange concordTogetherSpec)) concordTogetherCard

/-- THE TIED CARD OF 'glosswrightlaw7.ConcordWholeSentence'. -/
def concordWholeSentenceCard : Claim7 := { stood := { row := concordWholeSentenceRow, standIns := [], harness := (true, "332cb5fe69f325910ecab3e556c5957380ceca3c2cd7fa58bfd9fc80e2a2040b"), looks := false }, kinds := [], alts := [], laidByText := true, laidKinds := [.data, .pinned], laidTests := true, laidLooks := .later }
def ConcordWholeSentenceCardSaid : Prop := Claim7.holds Tryz.pinned (.plain (OpenSpec.ofChange concordWholeSentenceSpec)) concordWholeSentenceCard

/-- THE TIED CARD OF 'glosswrightlaw7.ConcordWithMatchesSpec'. -/
def concordWithMatchesSpecCard : Claim7 := { stood := { row := concordWithMatchesSpecRow, standIns := [], harness := (true, "332cb5fe69f325910ecab3e556c5957380ceca3c2cd7fa58bfd9fc80e2a2040b"), looks := false }, kinds := [], alts := [], laidByText := true, laidKinds := [.data, .pinned], laidTests := true, laidLooks := .later }
def ConcordWithMatchesSpecCardSaid : Prop := Claim7.holds Tryz.pinned (.plain (OpenSpec.ofChange concordWithMatchesSpecSpec)) concordWithMatchesSpecCard

/-- THE TIED CARD OF 'glosswrightlaw7.ConcordWithIsCounted'. -/
def concordWithIsCountedCard : Claim7 := { stood := { row := concordWithIsCountedRow, standIns := [], harness := (true, "332cb5fe69f325910ecab3e556c5957380ceca3c2cd7fa58bfd9fc80e2a2040b"), looks := false }, kinds := [], alts := [], laidByText := true, laidKinds := [.data, .pinned], laidTests := true, laidLooks := .later }
def ConcordWithIsCountedCardSaid : Prop := Claim7.holds Tryz.pinned (.plain (OpenSpec.ofChange concordWithIsCountedSpec)) concordWithIsCountedCard

/-- THE TIED CARD OF 'glosswrightlaw7.ConcordGramsMatchesSpec'. -/
def concordGramsMatchesSpecCard : Claim7 := { stood := { row := concordGramsMatchesSpecRow, standIns := [], harness := (true, "332cb5fe69f325910ecab3e556c5957380ceca3c2cd7fa58bfd9fc80e2a2040b"), looks := false }, kinds := [], alts := [], laidByText := true, laidKinds := [.data, .pinned], laidTests := true, laidLooks := .later }
def ConcordGramsMatchesSpecCardSaid : Prop := Claim7.holds Tryz.pinned (.plain (OpenSpec.ofChange concordGramsMatchesSpecSpec)) concordGramsMatchesSpecCard

/-- THE TIED CARD OF 'glosswrightlaw7.ConcordGramsAddUp'. -/
def concordGramsAddUpCard : Claim7 := { stood := { row := concordGramsAddUpRow, standIns := [], harness := (true, "332cb5fe69f325910ecab3e556c5957380ceca3c2cd7fa58bfd9fc80e2a2040b"), looks := false }, kinds := [], alts := [], laidByText := true, laidKinds := [.data, .pinned], laidTests := true, laidLooks := .later }
def ConcordGramsAddUpCardSaid : Prop := Claim7.holds Tryz.pinned (.plain (OpenSpec.ofChange concordGramsAddUpSpec)) concordGramsAddUpCard

/-- THE SECOND FORM's CARD OF 'glosswrightlaw7.ConcordHitsMatchesSpec'. -/
def concordHitsMatchesSpecUptoCard : Claim7 := { stood := { row := concordHitsMatchesSpecUptoRow, standIns := [], harness := (true, "332cb5fe69f325910ecab3e556c5957380ceca3c2cd7fa58bfd9fc80e2a2040b"), looks := false }, kinds := [], alts := [], laidByText := true, laidKinds := [.data, .pinned], laidTests := true, laidLooks := .later }
def ConcordHitsMatchesSpecUptoCardSaid : Prop := Claim7.holds Tryz.pinned (.plain (OpenSpec.upto concordHitsMatchesSpecSpec)) concordHitsMatchesSpecUptoCard

/-- THE SECOND FORM's CARD OF 'glosswrightlaw7.ConcordTogether'. -/
def concordTogetherUptoCard : Claim7 := { stood := { row := concordTogetherUptoRow, standIns := [], harness := (true, "332cb5fe69f325910ecab3e556c5957380ceca3c2cd7fa58bfd9fc80e2a2040b"), looks := false }, kinds := [], alts := [], laidByText := true, laidKinds := [.data, .pinned], laidTests := true, laidLooks := .later }
def ConcordTogetherUptoCardSaid : Prop := Claim7.holds Tryz.pinned (.plain (OpenSpec.upto concordTogetherSpec)) concordTogetherUptoCard

/-- THE SECOND FORM's CARD OF 'glosswrightlaw7.ConcordWholeSentence'. -/
def concordWholeSentenceUptoCard : Claim7 := { stood := { row := concordWholeSentenceUptoRow, standIns := [], harness := (true, "332cb5fe69f325910ecab3e556c5957380ceca3c2cd7fa58bfd9fc80e2a2040b"), looks := false }, kinds := [], alts := [], laidByText := true, laidKinds := [.data, .pinned], laidTests := true, laidLooks := .later }
def ConcordWholeSentenceUptoCardSaid : Prop := Claim7.holds Tryz.pinned (.plain (OpenSpec.upto concordWholeSentenceSpec)) concordWholeSentenceUptoCard

/-- THE SECOND FORM's CARD OF 'glosswrightlaw7.ConcordWithMatchesSpec'. -/
def concordWithMatchesSpecUptoCard : Claim7 := { stood := { row := concordWithMatchesSpecUptoRow, standIns := [], harness := (true, "332cb5fe69f325910ecab3e556c5957380ceca3c2cd7fa58bfd9fc80e2a2040b"), looks := false }, kinds := [], alts := [], laidByText := true, laidKinds := [.data, .pinned], laidTests := true, laidLooks := .later }
def ConcordWithMatchesSpecUptoCardSaid : Prop := Claim7.holds Tryz.pinned (.plain (OpenSpec.upto concordWithMatchesSpecSpec)) concordWithMatchesSpecUptoCard

/-- THE SECOND FORM's CARD OF 'glosswrightlaw7.ConcordWithIsCounted'. -/
def concordWithIsCountedUptoCard : Claim7 := { stood := { row := concordWithIsCountedUptoRow, standIns := [], harness := (true, "332cb5fe69f325910ecab3e556c5957380ceca3c2cd7fa58bfd9fc80e2a2040b"), looks := false }, kinds := [], alts := [], laidByText := true, laidKinds := [.data, .pinned], laidTests := true, laidLooks := .later }
def ConcordWithIsCountedUptoCardSaid : Prop := Claim7.holds Tryz.pinned (.plain (OpenSpec.upto concordWithIsCountedSpec)) concordWithIsCountedUptoCard

/-- THE SECOND FORM's CARD OF 'glosswrightlaw7.ConcordGramsMatchesSpec'. -/
def concordGramsMatchesSpecUptoCard : Claim7 := { stood := { row := concordGramsMatchesSpecUptoRow, standIns := [], harness := (true, "332cb5fe69f325910ecab3e556c5957380ceca3c2cd7fa58bfd9fc80e2a2040b"), looks := false }, kinds := [], alts := [], laidByText := true, laidKinds := [.data, .pinned], laidTests := true, laidLooks := .later }
def ConcordGramsMatchesSpecUptoCardSaid : Prop := Claim7.holds Tryz.pinned (.plain (OpenSpec.upto concordGramsMatchesSpecSpec)) concordGramsMatchesSpecUptoCard

/-- THE SECOND FORM's CARD OF 'glosswrightlaw7.ConcordGramsAddUp'. -/
def concordGramsAddUpUptoCard : Claim7 := { stood := { row := concordGramsAddUpUptoRow, standIns := [], harness := (true, "332cb5fe69f325910ecab3e556c5957380ceca3c2cd7fa58bfd9fc80e2a2040b"), looks := false }, kinds := [], alts := [], laidByText := true, laidKinds := [.data, .pinned], laidTests := true, laidLooks := .later }
def ConcordGramsAddUpUptoCardSaid : Prop := Claim7.holds Tryz.pinned (.plain (OpenSpec.upto concordGramsAddUpSpec)) concordGramsAddUpUptoCard
end Rows
end Go.Proofs.YtgikcbfdonjggaaGreatDoor
