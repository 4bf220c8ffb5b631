/-
  DERIVED. GIVEN WITH THE SEED: THE CARDS: each row of YtblifkgpebebmaaGreatDoorRows.lean that lists a variable, with what it lists TIED to the program's text (the seventh form; the later family's looks); each row that meets fmt, with fmt's text TOLD by the authors' own Lean function (tested against real Go, not proved from fmt's source: count such statements apart). THE CARD IS WHAT COUNTS. Prove the row's statement (the work); the ties are given (YtblifkgpebebmaaGreatDoorTie.lean); close each card by the builder's one call (the guide's Derived/Test/ToyasCard.lean, 'card_holds'). Laid BY PROGRAM, IN A SANDBOX (cutbox-door.mjs). By AI agents, Wed Nov 11 2026. No macro, syntax, notation, axiom, sorry.
-/
import Derived.Test.YtblifkgpebebmaaGreatDoorRows
import GoSem.ClaimSeven
namespace Go.Proofs.YtblifkgpebebmaaGreatDoor
namespace Rows

/-- THE TIED CARD OF 'glosswrighttop.TopTokens'. -/
def topTokensCard : Claim7 := { stood := { row := topTokensRow, standIns := [], harness := (true, "0e83c27d7ce0a1db18017fb35400dfa89671e62fdafe4b6c7938be19390e2dc3"), looks := true }, kinds := [], alts := [], laidByText := true, laidKinds := [.data, .data, .pinned], laidTests := true, laidLooks := .later }
def TopTokensCardSaid : Prop := Claim7.holds Tryz.pinned (.plain (OpenSpec.ofChange topTokensSpec)) topTokensCard

/-- THE TIED CARD OF 'glosswrightlaw7.AgreeMoreForms'. -/
def agreeMoreFormsCard : Claim7 := { stood := { row := agreeMoreFormsRow, standIns := [], harness := (true, "0e83c27d7ce0a1db18017fb35400dfa89671e62fdafe4b6c7938be19390e2dc3"), looks := true }, kinds := [], alts := [], laidByText := true, laidKinds := [.data, .data, .pinned], laidTests := true, laidLooks := .later }
def AgreeMoreFormsCardSaid : Prop := Claim7.holds Tryz.pinned (.plain (OpenSpec.ofChange agreeMoreFormsSpec)) agreeMoreFormsCard

/-- THE TIED CARD OF 'glosswrightlaw7.AgreeForcedMatchesSpec'. -/
def agreeForcedMatchesSpecCard : Claim7 := { stood := { row := agreeForcedMatchesSpecRow, standIns := [], harness := (true, "0e83c27d7ce0a1db18017fb35400dfa89671e62fdafe4b6c7938be19390e2dc3"), looks := true }, kinds := [], alts := [], laidByText := true, laidKinds := [.data, .data, .pinned], laidTests := true, laidLooks := .later }
def AgreeForcedMatchesSpecCardSaid : Prop := Claim7.holds Tryz.pinned (.plain (OpenSpec.ofChange agreeForcedMatchesSpecSpec)) agreeForcedMatchesSpecCard

/-- THE TIED CARD OF 'glosswrightlaw7.AgreeForcedLosesNothing'. -/
def agreeForcedLosesNothingCard : Claim7 := { stood := { row := agreeForcedLosesNothingRow, standIns := [], harness := (true, "0e83c27d7ce0a1db18017fb35400dfa89671e62fdafe4b6c7938be19390e2dc3"), looks := true }, kinds := [], alts := [], laidByText := true, laidKinds := [.data, .data, .pinned], laidTests := true, laidLooks := .later }
def AgreeForcedLosesNothingCardSaid : Prop := Claim7.holds Tryz.pinned (.plain (OpenSpec.ofChange agreeForcedLosesNothingSpec)) agreeForcedLosesNothingCard

/-- THE SECOND FORM's CARD OF 'glosswrighttop.TopTokens'. -/
def topTokensUptoCard : Claim7 := { stood := { row := topTokensUptoRow, standIns := [], harness := (true, "0e83c27d7ce0a1db18017fb35400dfa89671e62fdafe4b6c7938be19390e2dc3"), looks := true }, kinds := [], alts := [], laidByText := true, laidKinds := [.data, .data, .pinned], laidTests := true, laidLooks := .later }
def TopTokensUptoCardSaid : Prop := Claim7.holds Tryz.pinned (.plain (OpenSpec.upto topTokensSpec)) topTokensUptoCard

/-- THE SECOND FORM's CARD OF 'glosswrightlaw7.AgreeMoreForms'. -/
def agreeMoreFormsUptoCard : Claim7 := { stood := { row := agreeMoreFormsUptoRow, standIns := [], harness := (true, "0e83c27d7ce0a1db18017fb35400dfa89671e62fdafe4b6c7938be19390e2dc3"), looks := true }, kinds := [], alts := [], laidByText := true, laidKinds := [.data, .data, .pinned], laidTests := true, laidLooks := .later }
def AgreeMoreFormsUptoCardSaid : Prop := Claim7.holds Tryz.pinned (.plain (OpenSpec.upto agreeMoreFormsSpec)) agreeMoreFormsUptoCard

/-- THE SECOND FORM's CARD OF 'glosswrightlaw7.AgreeForcedMatchesSpec'. -/
def agreeForcedMatchesSpecUptoCard : Claim7 := { stood := { row := agreeForcedMatchesSpecUptoRow, standIns := [], harness := (true, "0e83c27d7ce0a1db18017fb35400dfa89671e62fdafe4b6c7938be19390e2dc3"), looks := true }, kinds := [], alts := [], laidByText := true, laidKinds := [.data, .data, .pinned], laidTests := true, laidLooks := .later }
def AgreeForcedMatchesSpecUptoCardSaid : Prop := Claim7.holds Tryz.pinned (.plain (OpenSpec.upto agreeForcedMatchesSpecSpec)) agreeForcedMatchesSpecUptoCard

/-- THE SECOND FORM's CARD OF 'glosswrightlaw7.AgreeForcedLosesNothing'. -/
def agreeForcedLosesNothingUptoCard : Claim7 := { stood := { row := agreeForcedLosesNothingUptoRow, standIns := [], harness := (true, "0e83c27d7ce0a1db18017fb35400dfa89671e62fdafe4b6c7938be19390e2dc3"), looks := true }, kinds := [], alts := [], laidByText := true, laidKinds := [.data, .data, .pinned], laidTests := true, laidLooks := .later }
def AgreeForcedLosesNothingUptoCardSaid : Prop := Claim7.holds Tryz.pinned (.plain (OpenSpec.upto agreeForcedLosesNothingSpec)) agreeForcedLosesNothingUptoCard
end Rows
end Go.Proofs.YtblifkgpebebmaaGreatDoor
