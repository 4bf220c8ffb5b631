/-
  NARROWER THAN 'FOR EVERY INPUT', by the rows' own cells (each row's printed sentence says how): ConcordHitsMatchesSpec: laid · ConcordTogether: laid · ConcordWholeSentence: laid · ConcordWithMatchesSpec: laid · ConcordWithIsCounted: laid · ConcordGramsMatchesSpec: laid · ConcordGramsAddUp: laid.
  DERIVED. THE GIVEN ROWS OF THIS SEAT. 7 by the template 'for every input the law returns true; each argument reads behind the call as it read before'; 0 by the template 'total and deterministic' (their statements: YtgikcbfdonjggaaGreatDoorTotals.lean).
  GIVEN WITH THE SEED: the statements are not yours to turn. If you find one false, say at which input.
  Laid BY PROGRAM, IN A SANDBOX (cutbox-rows.mjs): the forced cells as the released guide's own fill.sh prints them over the translation 7549180ecf7bbca3… (all of the seat's roots in one cut). By AI agents, Wed Nov 11 2026. No macro, syntax, notation, axiom, sorry.
-/
import Derived.Test.YtgikcbfdonjggaaGreatDoorChecked
import GoSem.PinnedTables
import GoSem.Claim
import GoSem.ClaimJoined
import GoSem.ClaimMapViews
import Derived.JoinedTies
import Derived.KernelRfl
namespace Go.Proofs.YtgikcbfdonjggaaGreatDoor
/- THE CELL 'sum', in the pinned program and in every row, IS THE sha256 OF THE DUMP (.gsa) THAT YtgikcbfdonjggaaGreatDoorProg.lean LOADS. Nothing in Lean hashes anything: it is a label: what it is worth is what the hold of that sum in a sandbox is worth. -/
noncomputable def Tryz.pinned : Pinned := { name := "ytgikcbfdonjggaagreatdoor", sum := "7549180ecf7bbca3e23093a276afe25e33bbb5b149426b8d5c0f507471161b52", checked := Tryz.checked }
namespace Rows
def none {H : Type} : Left H := { results := [], args := [] }

/- WHAT THE LISTED PACKAGE-LEVEL VARIABLES READ AS WHEN THE CALL BEGINS. Each datum BY PROGRAM (the guide's laid-datum.mjs) off the statement by which the dump's own 'gosem.cut.vars' lays the variable. In a bare row this is a premise. The card (YtgikcbfdonjggaaGreatDoorCards.lean) ties it to the program's text. -/
def laid_unicode_utf8_acceptRanges {H : Type} : DataW H := .agg [.agg [.lit (.int .u8 128), .lit (.int .u8 191)], .agg [.lit (.int .u8 160), .lit (.int .u8 191)], .agg [.lit (.int .u8 128), .lit (.int .u8 159)], .agg [.lit (.int .u8 144), .lit (.int .u8 191)], .agg [.lit (.int .u8 128), .lit (.int .u8 143)], .agg [.lit (.int .u8 0), .lit (.int .u8 0)], .agg [.lit (.int .u8 0), .lit (.int .u8 0)], .agg [.lit (.int .u8 0), .lit (.int .u8 0)], .agg [.lit (.int .u8 0), .lit (.int .u8 0)], .agg [.lit (.int .u8 0), .lit (.int .u8 0)], .agg [.lit (.int .u8 0), .lit (.int .u8 0)], .agg [.lit (.int .u8 0), .lit (.int .u8 0)], .agg [.lit (.int .u8 0), .lit (.int .u8 0)], .agg [.lit (.int .u8 0), .lit (.int .u8 0)], .agg [.lit (.int .u8 0), .lit (.int .u8 0)], .agg [.lit (.int .u8 0), .lit (.int .u8 0)]]
/-- One of Go's own tables, pinned by name: the form's constant. -/
def laid_unicode_utf8_first : DataW Unit := Go.Pinned.utf8First

/-- 'glosswrightlaw7.ConcordHitsMatchesSpec': WHATEVER THE INPUT: true; the input reads as it did. -/
def concordHitsMatchesSpecSpec : ChangeSpec := { name := "concordHitsMatchesSpec", fn := fun _ => fun
  | [d1, d2, d3] => { results := [.lit (.bool true)], args := [d1, d2, d3] }
  | _ => none }
def concordHitsMatchesSpecRow : OpenClaim := { program := "ytgikcbfdonjggaagreatdoor", sum := "7549180ecf7bbca3e23093a276afe25e33bbb5b149426b8d5c0f507471161b52", func := "glosswright/glosswrightlaw7.ConcordHitsMatchesSpec", spec := "concordHitsMatchesSpec", inPlace := ["internal/bytealg.IndexByteString", "internal/bytealg.IndexString"], unfollowed := true, recurses := true, named := ["unicode/utf8.first", "unicode/utf8.acceptRanges", "internal/bytealg.MaxLen"], apart := false, laid := [("unicode/utf8.acceptRanges", laid_unicode_utf8_acceptRanges), ("unicode/utf8.first", laid_unicode_utf8_first)] }
def ConcordHitsMatchesSpecSaid : Prop := concordHitsMatchesSpecRow.holds Tryz.pinned (OpenSpec.ofChange concordHitsMatchesSpecSpec)

/-- ITS FALSE NEIGHBOUR: 'it returns false'. Refute it at one input. -/
def concordHitsMatchesSpecWrong : ChangeSpec := { name := "concordHitsMatchesSpec", fn := fun _ => fun
  | [d1, d2, d3] => { results := [.lit (.bool false)], args := [d1, d2, d3] }
  | _ => none }
def ConcordHitsMatchesSpecWrongFalsely : Prop := concordHitsMatchesSpecRow.holds Tryz.pinned (OpenSpec.ofChange concordHitsMatchesSpecWrong)

/-- 'glosswrightlaw7.ConcordTogether': WHATEVER THE INPUT: true; the input reads as it did. -/
def concordTogetherSpec : ChangeSpec := { name := "concordTogether", fn := fun _ => fun
  | [d1, d2, d3, d4] => { results := [.lit (.bool true)], args := [d1, d2, d3, d4] }
  | _ => none }
def concordTogetherRow : OpenClaim := { program := "ytgikcbfdonjggaagreatdoor", sum := "7549180ecf7bbca3e23093a276afe25e33bbb5b149426b8d5c0f507471161b52", func := "glosswright/glosswrightlaw7.ConcordTogether", spec := "concordTogether", inPlace := ["internal/bytealg.IndexByteString", "internal/bytealg.IndexString"], unfollowed := true, recurses := true, named := ["unicode/utf8.first", "unicode/utf8.acceptRanges", "internal/bytealg.MaxLen"], apart := false, laid := [("unicode/utf8.acceptRanges", laid_unicode_utf8_acceptRanges), ("unicode/utf8.first", laid_unicode_utf8_first)] }
def ConcordTogetherSaid : Prop := concordTogetherRow.holds Tryz.pinned (OpenSpec.ofChange concordTogetherSpec)

/-- ITS FALSE NEIGHBOUR: 'it returns false'. Refute it at one input. -/
def concordTogetherWrong : ChangeSpec := { name := "concordTogether", fn := fun _ => fun
  | [d1, d2, d3, d4] => { results := [.lit (.bool false)], args := [d1, d2, d3, d4] }
  | _ => none }
def ConcordTogetherWrongFalsely : Prop := concordTogetherRow.holds Tryz.pinned (OpenSpec.ofChange concordTogetherWrong)

/-- 'glosswrightlaw7.ConcordWholeSentence': WHATEVER THE INPUT: true; the input reads as it did. -/
def concordWholeSentenceSpec : ChangeSpec := { name := "concordWholeSentence", fn := fun _ => fun
  | [d1, d2] => { results := [.lit (.bool true)], args := [d1, d2] }
  | _ => none }
def concordWholeSentenceRow : OpenClaim := { program := "ytgikcbfdonjggaagreatdoor", sum := "7549180ecf7bbca3e23093a276afe25e33bbb5b149426b8d5c0f507471161b52", func := "glosswright/glosswrightlaw7.ConcordWholeSentence", spec := "concordWholeSentence", inPlace := ["internal/bytealg.IndexByteString", "internal/bytealg.IndexString"], unfollowed := true, recurses := true, named := ["unicode/utf8.first", "unicode/utf8.acceptRanges", "internal/bytealg.MaxLen"], apart := false, laid := [("unicode/utf8.acceptRanges", laid_unicode_utf8_acceptRanges), ("unicode/utf8.first", laid_unicode_utf8_first)] }
def ConcordWholeSentenceSaid : Prop := concordWholeSentenceRow.holds Tryz.pinned (OpenSpec.ofChange concordWholeSentenceSpec)

/-- ITS FALSE NEIGHBOUR: 'it returns false'. Refute it at one input. -/
def concordWholeSentenceWrong : ChangeSpec := { name := "concordWholeSentence", fn := fun _ => fun
  | [d1, d2] => { results := [.lit (.bool false)], args := [d1, d2] }
  | _ => none }
def ConcordWholeSentenceWrongFalsely : Prop := concordWholeSentenceRow.holds Tryz.pinned (OpenSpec.ofChange concordWholeSentenceWrong)

/-- 'glosswrightlaw7.ConcordWithMatchesSpec': WHATEVER THE INPUT: true; the input reads as it did. -/
def concordWithMatchesSpecSpec : ChangeSpec := { name := "concordWithMatchesSpec", fn := fun _ => fun
  | [d1, d2] => { results := [.lit (.bool true)], args := [d1, d2] }
  | _ => none }
def concordWithMatchesSpecRow : OpenClaim := { program := "ytgikcbfdonjggaagreatdoor", sum := "7549180ecf7bbca3e23093a276afe25e33bbb5b149426b8d5c0f507471161b52", func := "glosswright/glosswrightlaw7.ConcordWithMatchesSpec", spec := "concordWithMatchesSpec", inPlace := ["internal/bytealg.IndexByteString", "internal/bytealg.IndexString"], unfollowed := true, recurses := true, named := ["unicode/utf8.first", "unicode/utf8.acceptRanges", "internal/bytealg.MaxLen"], apart := false, laid := [("unicode/utf8.acceptRanges", laid_unicode_utf8_acceptRanges), ("unicode/utf8.first", laid_unicode_utf8_first)] }
def ConcordWithMatchesSpecSaid : Prop := concordWithMatchesSpecRow.holds Tryz.pinned (OpenSpec.ofChange concordWithMatchesSpecSpec)

/-- ITS FALSE NEIGHBOUR: 'it returns false'. Refute it at one input. -/
def concordWithMatchesSpecWrong : ChangeSpec := { name := "concordWithMatchesSpec", fn := fun _ => fun
  | [d1, d2] => { results := [.lit (.bool false)], args := [d1, d2] }
  | _ => none }
def ConcordWithMatchesSpecWrongFalsely : Prop := concordWithMatchesSpecRow.holds Tryz.pinned (OpenSpec.ofChange concordWithMatchesSpecWrong)

/-- 'glosswrightlaw7.ConcordWithIsCounted': WHATEVER THE INPUT: true; the input reads as it did. -/
def concordWithIsCountedSpec : ChangeSpec := { name := "concordWithIsCounted", fn := fun _ => fun
  | [d1, d2] => { results := [.lit (.bool true)], args := [d1, d2] }
  | _ => none }
def concordWithIsCountedRow : OpenClaim := { program := "ytgikcbfdonjggaagreatdoor", sum := "7549180ecf7bbca3e23093a276afe25e33bbb5b149426b8d5c0f507471161b52", func := "glosswright/glosswrightlaw7.ConcordWithIsCounted", spec := "concordWithIsCounted", inPlace := ["internal/bytealg.IndexByteString", "internal/bytealg.IndexString"], unfollowed := true, recurses := true, named := ["unicode/utf8.first", "unicode/utf8.acceptRanges", "internal/bytealg.MaxLen"], apart := false, laid := [("unicode/utf8.acceptRanges", laid_unicode_utf8_acceptRanges), ("unicode/utf8.first", laid_unicode_utf8_first)] }
def ConcordWithIsCountedSaid : Prop := concordWithIsCountedRow.holds Tryz.pinned (OpenSpec.ofChange concordWithIsCountedSpec)

/-- ITS FALSE NEIGHBOUR: 'it returns false'. Refute it at one input. -/
def concordWithIsCountedWrong : ChangeSpec := { name := "concordWithIsCounted", fn := fun _ => fun
  | [d1, d2] => { results := [.lit (.bool false)], args := [d1, d2] }
  | _ => none }
def ConcordWithIsCountedWrongFalsely : Prop := concordWithIsCountedRow.holds Tryz.pinned (OpenSpec.ofChange concordWithIsCountedWrong)

/-- 'glosswrightlaw7.ConcordGramsMatchesSpec': WHATEVER THE INPUT: true; the input reads as it did. -/
def concordGramsMatchesSpecSpec : ChangeSpec := { name := "concordGramsMatchesSpec", fn := fun _ => fun
  | [d1, d2] => { results := [.lit (.bool true)], args := [d1, d2] }
  | _ => none }
def concordGramsMatchesSpecRow : OpenClaim := { program := "ytgikcbfdonjggaagreatdoor", sum := "7549180ecf7bbca3e23093a276afe25e33bbb5b149426b8d5c0f507471161b52", func := "glosswright/glosswrightlaw7.ConcordGramsMatchesSpec", spec := "concordGramsMatchesSpec", inPlace := ["internal/bytealg.IndexByteString", "internal/bytealg.IndexString"], unfollowed := true, recurses := true, named := ["unicode/utf8.first", "unicode/utf8.acceptRanges", "internal/bytealg.MaxLen"], apart := false, laid := [("unicode/utf8.acceptRanges", laid_unicode_utf8_acceptRanges), ("unicode/utf8.first", laid_unicode_utf8_first)] }
def ConcordGramsMatchesSpecSaid : Prop := concordGramsMatchesSpecRow.holds Tryz.pinned (OpenSpec.ofChange concordGramsMatchesSpecSpec)

/-- ITS FALSE NEIGHBOUR: 'it returns false'. Refute it at one input. -/
def concordGramsMatchesSpecWrong : ChangeSpec := { name := "concordGramsMatchesSpec", fn := fun _ => fun
  | [d1, d2] => { results := [.lit (.bool false)], args := [d1, d2] }
  | _ => none }
def ConcordGramsMatchesSpecWrongFalsely : Prop := concordGramsMatchesSpecRow.holds Tryz.pinned (OpenSpec.ofChange concordGramsMatchesSpecWrong)

/-- 'glosswrightlaw7.ConcordGramsAddUp': WHATEVER THE INPUT: true; the input reads as it did. -/
def concordGramsAddUpSpec : ChangeSpec := { name := "concordGramsAddUp", fn := fun _ => fun
  | [d1, d2] => { results := [.lit (.bool true)], args := [d1, d2] }
  | _ => none }
def concordGramsAddUpRow : OpenClaim := { program := "ytgikcbfdonjggaagreatdoor", sum := "7549180ecf7bbca3e23093a276afe25e33bbb5b149426b8d5c0f507471161b52", func := "glosswright/glosswrightlaw7.ConcordGramsAddUp", spec := "concordGramsAddUp", inPlace := ["internal/bytealg.IndexByteString", "internal/bytealg.IndexString"], unfollowed := true, recurses := true, named := ["unicode/utf8.first", "unicode/utf8.acceptRanges", "internal/bytealg.MaxLen"], apart := false, laid := [("unicode/utf8.acceptRanges", laid_unicode_utf8_acceptRanges), ("unicode/utf8.first", laid_unicode_utf8_first)] }
def ConcordGramsAddUpSaid : Prop := concordGramsAddUpRow.holds Tryz.pinned (OpenSpec.ofChange concordGramsAddUpSpec)

/-- ITS FALSE NEIGHBOUR: 'it returns false'. Refute it at one input. -/
def concordGramsAddUpWrong : ChangeSpec := { name := "concordGramsAddUp", fn := fun _ => fun
  | [d1, d2] => { results := [.lit (.bool false)], args := [d1, d2] }
  | _ => none }
def ConcordGramsAddUpWrongFalsely : Prop := concordGramsAddUpRow.holds Tryz.pinned (OpenSpec.ofChange concordGramsAddUpWrong)

/- THE SECOND FORM. 'bulk': how many values and letters a reading holds, each counted each time it is reached (what is shared counts as often as it is met; a slice's spare places count too). A statement '..UptoSaid' is the law's where the arguments, and the package variables that the reading takes, are together of bulk at most 1048576: NARROWER than '..Said'. Prove '..Said' where nothing that the law and all that it calls make is longer than what came in: it says more and counts as full. Else prove '..UptoSaid'. A law counts once. -/
mutual
def uptoBulk {H : Type} : DataW H → Nat
  | .lit (.string bytes) => bytes.length + 1
  | .lit _ => 1
  | .nil => 1
  | .ptr d => uptoBulk d + 1
  | .slice elems spare => uptoBulkAll elems + uptoBulkAll spare + 1
  | .agg parts => uptoBulkAll parts + 1
  | .iface _ d => uptoBulk d + 1
  | .map entries => uptoBulkEntries entries + 1
  | .held _ => 1
def uptoBulkAll {H : Type} : List (DataW H) → Nat
  | [] => 0
  | d :: r => uptoBulk d + uptoBulkAll r
def uptoBulkEntries {H : Type} : List (Lit × DataW H) → Nat
  | [] => 0
  | x :: r => uptoBulkEntry x + uptoBulkEntries r
def uptoBulkEntry {H : Type} : Lit × DataW H → Nat
  | (.string bytes, d) => bytes.length + uptoBulk d + 1
  | (_, d) => uptoBulk d + 1
 end
def uptoSmall : (H : Type) → List (DataW H) → Bool := fun _ ds => decide (uptoBulkAll ds ≤ 1048576)
def OpenSpec.upto (s : _root_.Go.ChangeSpec) : _root_.Go.OpenSpec := { _root_.Go.OpenSpec.ofChange s with cond := some uptoSmall }

/-- 'glosswrightlaw7.ConcordHitsMatchesSpec', WHERE WHAT IT READS IS OF BULK AT MOST 1048576: true; the input reads as it did. -/
def concordHitsMatchesSpecUptoRow : OpenClaim := { program := "ytgikcbfdonjggaagreatdoor", sum := "7549180ecf7bbca3e23093a276afe25e33bbb5b149426b8d5c0f507471161b52", func := "glosswright/glosswrightlaw7.ConcordHitsMatchesSpec", spec := "concordHitsMatchesSpec", inPlace := ["internal/bytealg.IndexByteString", "internal/bytealg.IndexString"], unfollowed := true, recurses := true, named := ["unicode/utf8.first", "unicode/utf8.acceptRanges", "internal/bytealg.MaxLen"], apart := false, laid := [("unicode/utf8.acceptRanges", laid_unicode_utf8_acceptRanges), ("unicode/utf8.first", laid_unicode_utf8_first)], narrowed := true }
def ConcordHitsMatchesSpecUptoSaid : Prop := concordHitsMatchesSpecUptoRow.holds Tryz.pinned (OpenSpec.upto concordHitsMatchesSpecSpec)

/-- 'glosswrightlaw7.ConcordTogether', WHERE WHAT IT READS IS OF BULK AT MOST 1048576: true; the input reads as it did. -/
def concordTogetherUptoRow : OpenClaim := { program := "ytgikcbfdonjggaagreatdoor", sum := "7549180ecf7bbca3e23093a276afe25e33bbb5b149426b8d5c0f507471161b52", func := "glosswright/glosswrightlaw7.ConcordTogether", spec := "concordTogether", inPlace := ["internal/bytealg.IndexByteString", "internal/bytealg.IndexString"], unfollowed := true, recurses := true, named := ["unicode/utf8.first", "unicode/utf8.acceptRanges", "internal/bytealg.MaxLen"], apart := false, laid := [("unicode/utf8.acceptRanges", laid_unicode_utf8_acceptRanges), ("unicode/utf8.first", laid_unicode_utf8_first)], narrowed := true }
def ConcordTogetherUptoSaid : Prop := concordTogetherUptoRow.holds Tryz.pinned (OpenSpec.upto concordTogetherSpec)

/-- 'glosswrightlaw7.ConcordWholeSentence', WHERE WHAT IT READS IS OF BULK AT MOST 1048576: true; the input reads as it did. -/
def concordWholeSentenceUptoRow : OpenClaim := { program := "ytgikcbfdonjggaagreatdoor", sum := "7549180ecf7bbca3e23093a276afe25e33bbb5b149426b8d5c0f507471161b52", func := "glosswright/glosswrightlaw7.ConcordWholeSentence", spec := "concordWholeSentence", inPlace := ["internal/bytealg.IndexByteString", "internal/bytealg.IndexString"], unfollowed := true, recurses := true, named := ["unicode/utf8.first", "unicode/utf8.acceptRanges", "internal/bytealg.MaxLen"], apart := false, laid := [("unicode/utf8.acceptRanges", laid_unicode_utf8_acceptRanges), ("unicode/utf8.first", laid_unicode_utf8_first)], narrowed := true }
def ConcordWholeSentenceUptoSaid : Prop := concordWholeSentenceUptoRow.holds Tryz.pinned (OpenSpec.upto concordWholeSentenceSpec)

/-- 'glosswrightlaw7.ConcordWithMatchesSpec', WHERE WHAT IT READS IS OF BULK AT MOST 1048576: true; the input reads as it did. -/
def concordWithMatchesSpecUptoRow : OpenClaim := { program := "ytgikcbfdonjggaagreatdoor", sum := "7549180ecf7bbca3e23093a276afe25e33bbb5b149426b8d5c0f507471161b52", func := "glosswright/glosswrightlaw7.ConcordWithMatchesSpec", spec := "concordWithMatchesSpec", inPlace := ["internal/bytealg.IndexByteString", "internal/bytealg.IndexString"], unfollowed := true, recurses := true, named := ["unicode/utf8.first", "unicode/utf8.acceptRanges", "internal/bytealg.MaxLen"], apart := false, laid := [("unicode/utf8.acceptRanges", laid_unicode_utf8_acceptRanges), ("unicode/utf8.first", laid_unicode_utf8_first)], narrowed := true }
def ConcordWithMatchesSpecUptoSaid : Prop := concordWithMatchesSpecUptoRow.holds Tryz.pinned (OpenSpec.upto concordWithMatchesSpecSpec)

/-- 'glosswrightlaw7.ConcordWithIsCounted', WHERE WHAT IT READS IS OF BULK AT MOST 1048576: true; the input reads as it did. -/
def concordWithIsCountedUptoRow : OpenClaim := { program := "ytgikcbfdonjggaagreatdoor", sum := "7549180ecf7bbca3e23093a276afe25e33bbb5b149426b8d5c0f507471161b52", func := "glosswright/glosswrightlaw7.ConcordWithIsCounted", spec := "concordWithIsCounted", inPlace := ["internal/bytealg.IndexByteString", "internal/bytealg.IndexString"], unfollowed := true, recurses := true, named := ["unicode/utf8.first", "unicode/utf8.acceptRanges", "internal/bytealg.MaxLen"], apart := false, laid := [("unicode/utf8.acceptRanges", laid_unicode_utf8_acceptRanges), ("unicode/utf8.first", laid_unicode_utf8_first)], narrowed := true }
def ConcordWithIsCountedUptoSaid : Prop := concordWithIsCountedUptoRow.holds Tryz.pinned (OpenSpec.upto concordWithIsCountedSpec)

/-- 'glosswrightlaw7.ConcordGramsMatchesSpec', WHERE WHAT IT READS IS OF BULK AT MOST 1048576: true; the input reads as it did. -/
def concordGramsMatchesSpecUptoRow : OpenClaim := { program := "ytgikcbfdonjggaagreatdoor", sum := "7549180ecf7bbca3e23093a276afe25e33bbb5b149426b8d5c0f507471161b52", func := "glosswright/glosswrightlaw7.ConcordGramsMatchesSpec", spec := "concordGramsMatchesSpec", inPlace := ["internal/bytealg.IndexByteString", "internal/bytealg.IndexString"], unfollowed := true, recurses := true, named := ["unicode/utf8.first", "unicode/utf8.acceptRanges", "internal/bytealg.MaxLen"], apart := false, laid := [("unicode/utf8.acceptRanges", laid_unicode_utf8_acceptRanges), ("unicode/utf8.first", laid_unicode_utf8_first)], narrowed := true }
def ConcordGramsMatchesSpecUptoSaid : Prop := concordGramsMatchesSpecUptoRow.holds Tryz.pinned (OpenSpec.upto concordGramsMatchesSpecSpec)

/-- 'glosswrightlaw7.ConcordGramsAddUp', WHERE WHAT IT READS IS OF BULK AT MOST 1048576: true; the input reads as it did. -/
def concordGramsAddUpUptoRow : OpenClaim := { program := "ytgikcbfdonjggaagreatdoor", sum := "7549180ecf7bbca3e23093a276afe25e33bbb5b149426b8d5c0f507471161b52", func := "glosswright/glosswrightlaw7.ConcordGramsAddUp", spec := "concordGramsAddUp", inPlace := ["internal/bytealg.IndexByteString", "internal/bytealg.IndexString"], unfollowed := true, recurses := true, named := ["unicode/utf8.first", "unicode/utf8.acceptRanges", "internal/bytealg.MaxLen"], apart := false, laid := [("unicode/utf8.acceptRanges", laid_unicode_utf8_acceptRanges), ("unicode/utf8.first", laid_unicode_utf8_first)], narrowed := true }
def ConcordGramsAddUpUptoSaid : Prop := concordGramsAddUpUptoRow.holds Tryz.pinned (OpenSpec.upto concordGramsAddUpSpec)

end Rows
end Go.Proofs.YtgikcbfdonjggaaGreatDoor
