/-
  No cell of these rows narrows 'for every input' (looked for: loops, veiled, ifaces, maps, wideKeys, modest, calm, conditions, laid).
  DERIVED. THE GIVEN ROWS OF THIS SEAT. 8 by the template 'for every input the law returns true; each argument reads behind the call as it read before'; 0 by the template 'total and deterministic' (their statements: YtblmnncmkibhnaaTotals.lean).
  GIVEN WITH THE SEED: the statements are not yours to turn. If you find one false, say at which input.
  Laid BY PROGRAM, IN A SANDBOX (cutbox-rows.mjs): the forced cells as the released guide's own fill.sh prints them over the translation cb553f3705b71538… (all of the seat's roots in one cut). By AI agents, Wed Nov 11 2026. No macro, syntax, notation, axiom, sorry.
-/
import Derived.Test.YtblmnncmkibhnaaChecked
import GoSem.Claim
import GoSem.ClaimJoined
import GoSem.ClaimMapViews
import Derived.JoinedTies
import Derived.KernelRfl
namespace Go.Proofs.Ytblmnncmkibhnaa
/- THE CELL 'sum', in the pinned program and in every row, IS THE sha256 OF THE DUMP (.gsa) THAT YtblmnncmkibhnaaProg.lean LOADS. Nothing in Lean hashes anything: it is a label: what it is worth is what the hold of that sum in a sandbox is worth. -/
noncomputable def Try.pinned : Pinned := { name := "ytblmnncmkibhnaa", sum := "cb553f3705b715382ba53f0fa7f4508baf581318c675f0fbb730c3c6fba14cc4", checked := Try.checked }
namespace Rows
def none {H : Type} : Left H := { results := [], args := [] }

/-- 'glosswrightlaw7.SuffixBuildMatchesSpec': WHATEVER THE INPUT: true; the input reads as it did. -/
def suffixBuildMatchesSpecSpec : ChangeSpec := { name := "suffixBuildMatchesSpec", fn := fun _ => fun
  | [d] => { results := [.lit (.bool true)], args := [d] }
  | _ => none }
def suffixBuildMatchesSpecRow : OpenClaim := { program := "ytblmnncmkibhnaa", sum := "cb553f3705b715382ba53f0fa7f4508baf581318c675f0fbb730c3c6fba14cc4", func := "glosswright/glosswrightlaw7.SuffixBuildMatchesSpec", spec := "suffixBuildMatchesSpec", unfollowed := true, recurses := true, apart := false }
def SuffixBuildMatchesSpecSaid : Prop := suffixBuildMatchesSpecRow.holds Try.pinned (OpenSpec.ofChange suffixBuildMatchesSpecSpec)

/-- ITS FALSE NEIGHBOUR: 'it returns false'. Refute it at one input. -/
def suffixBuildMatchesSpecWrong : ChangeSpec := { name := "suffixBuildMatchesSpec", fn := fun _ => fun
  | [d] => { results := [.lit (.bool false)], args := [d] }
  | _ => none }
def SuffixBuildMatchesSpecWrongFalsely : Prop := suffixBuildMatchesSpecRow.holds Try.pinned (OpenSpec.ofChange suffixBuildMatchesSpecWrong)

/-- 'glosswrightlaw7.SuffixFindMatchesSpec': WHATEVER THE INPUT: true; the input reads as it did. -/
def suffixFindMatchesSpecSpec : ChangeSpec := { name := "suffixFindMatchesSpec", fn := fun _ => fun
  | [d1, d2, d3] => { results := [.lit (.bool true)], args := [d1, d2, d3] }
  | _ => none }
def suffixFindMatchesSpecRow : OpenClaim := { program := "ytblmnncmkibhnaa", sum := "cb553f3705b715382ba53f0fa7f4508baf581318c675f0fbb730c3c6fba14cc4", func := "glosswright/glosswrightlaw7.SuffixFindMatchesSpec", spec := "suffixFindMatchesSpec", unfollowed := true, recurses := true, apart := false }
def SuffixFindMatchesSpecSaid : Prop := suffixFindMatchesSpecRow.holds Try.pinned (OpenSpec.ofChange suffixFindMatchesSpecSpec)

/-- ITS FALSE NEIGHBOUR: 'it returns false'. Refute it at one input. -/
def suffixFindMatchesSpecWrong : ChangeSpec := { name := "suffixFindMatchesSpec", fn := fun _ => fun
  | [d1, d2, d3] => { results := [.lit (.bool false)], args := [d1, d2, d3] }
  | _ => none }
def SuffixFindMatchesSpecWrongFalsely : Prop := suffixFindMatchesSpecRow.holds Try.pinned (OpenSpec.ofChange suffixFindMatchesSpecWrong)

/-- 'glosswrightlaw7.SuffixExtends': WHATEVER THE INPUT: true; the input reads as it did. -/
def suffixExtendsSpec : ChangeSpec := { name := "suffixExtends", fn := fun _ => fun
  | [d1, d2, d3] => { results := [.lit (.bool true)], args := [d1, d2, d3] }
  | _ => none }
def suffixExtendsRow : OpenClaim := { program := "ytblmnncmkibhnaa", sum := "cb553f3705b715382ba53f0fa7f4508baf581318c675f0fbb730c3c6fba14cc4", func := "glosswright/glosswrightlaw7.SuffixExtends", spec := "suffixExtends", unfollowed := true, recurses := true, apart := false }
def SuffixExtendsSaid : Prop := suffixExtendsRow.holds Try.pinned (OpenSpec.ofChange suffixExtendsSpec)

/-- ITS FALSE NEIGHBOUR: 'it returns false'. Refute it at one input. -/
def suffixExtendsWrong : ChangeSpec := { name := "suffixExtends", fn := fun _ => fun
  | [d1, d2, d3] => { results := [.lit (.bool false)], args := [d1, d2, d3] }
  | _ => none }
def SuffixExtendsWrongFalsely : Prop := suffixExtendsRow.holds Try.pinned (OpenSpec.ofChange suffixExtendsWrong)

/-- 'glosswrightlaw7.SuffixCommonMatchesSpec': WHATEVER THE INPUT: true; the input reads as it did. -/
def suffixCommonMatchesSpecSpec : ChangeSpec := { name := "suffixCommonMatchesSpec", fn := fun _ => fun
  | [d1, d2] => { results := [.lit (.bool true)], args := [d1, d2] }
  | _ => none }
def suffixCommonMatchesSpecRow : OpenClaim := { program := "ytblmnncmkibhnaa", sum := "cb553f3705b715382ba53f0fa7f4508baf581318c675f0fbb730c3c6fba14cc4", func := "glosswright/glosswrightlaw7.SuffixCommonMatchesSpec", spec := "suffixCommonMatchesSpec", unfollowed := true, recurses := true, apart := false }
def SuffixCommonMatchesSpecSaid : Prop := suffixCommonMatchesSpecRow.holds Try.pinned (OpenSpec.ofChange suffixCommonMatchesSpecSpec)

/-- ITS FALSE NEIGHBOUR: 'it returns false'. Refute it at one input. -/
def suffixCommonMatchesSpecWrong : ChangeSpec := { name := "suffixCommonMatchesSpec", fn := fun _ => fun
  | [d1, d2] => { results := [.lit (.bool false)], args := [d1, d2] }
  | _ => none }
def SuffixCommonMatchesSpecWrongFalsely : Prop := suffixCommonMatchesSpecRow.holds Try.pinned (OpenSpec.ofChange suffixCommonMatchesSpecWrong)

/-- 'glosswrightlaw7.SuffixDistinctMatchesSpec': WHATEVER THE INPUT: true; the input reads as it did. -/
def suffixDistinctMatchesSpecSpec : ChangeSpec := { name := "suffixDistinctMatchesSpec", fn := fun _ => fun
  | [d] => { results := [.lit (.bool true)], args := [d] }
  | _ => none }
def suffixDistinctMatchesSpecRow : OpenClaim := { program := "ytblmnncmkibhnaa", sum := "cb553f3705b715382ba53f0fa7f4508baf581318c675f0fbb730c3c6fba14cc4", func := "glosswright/glosswrightlaw7.SuffixDistinctMatchesSpec", spec := "suffixDistinctMatchesSpec", unfollowed := true, recurses := true, apart := false }
def SuffixDistinctMatchesSpecSaid : Prop := suffixDistinctMatchesSpecRow.holds Try.pinned (OpenSpec.ofChange suffixDistinctMatchesSpecSpec)

/-- ITS FALSE NEIGHBOUR: 'it returns false'. Refute it at one input. -/
def suffixDistinctMatchesSpecWrong : ChangeSpec := { name := "suffixDistinctMatchesSpec", fn := fun _ => fun
  | [d] => { results := [.lit (.bool false)], args := [d] }
  | _ => none }
def SuffixDistinctMatchesSpecWrongFalsely : Prop := suffixDistinctMatchesSpecRow.holds Try.pinned (OpenSpec.ofChange suffixDistinctMatchesSpecWrong)

/-- 'glosswrightlaw7.SuffixDistinctByCommon': WHATEVER THE INPUT: true; the input reads as it did. -/
def suffixDistinctByCommonSpec : ChangeSpec := { name := "suffixDistinctByCommon", fn := fun _ => fun
  | [d] => { results := [.lit (.bool true)], args := [d] }
  | _ => none }
def suffixDistinctByCommonRow : OpenClaim := { program := "ytblmnncmkibhnaa", sum := "cb553f3705b715382ba53f0fa7f4508baf581318c675f0fbb730c3c6fba14cc4", func := "glosswright/glosswrightlaw7.SuffixDistinctByCommon", spec := "suffixDistinctByCommon", unfollowed := true, recurses := true, apart := false }
def SuffixDistinctByCommonSaid : Prop := suffixDistinctByCommonRow.holds Try.pinned (OpenSpec.ofChange suffixDistinctByCommonSpec)

/-- ITS FALSE NEIGHBOUR: 'it returns false'. Refute it at one input. -/
def suffixDistinctByCommonWrong : ChangeSpec := { name := "suffixDistinctByCommon", fn := fun _ => fun
  | [d] => { results := [.lit (.bool false)], args := [d] }
  | _ => none }
def SuffixDistinctByCommonWrongFalsely : Prop := suffixDistinctByCommonRow.holds Try.pinned (OpenSpec.ofChange suffixDistinctByCommonWrong)

/-- 'glosswrightlaw7.SuffixLongestMatchesSpec': WHATEVER THE INPUT: true; the input reads as it did. -/
def suffixLongestMatchesSpecSpec : ChangeSpec := { name := "suffixLongestMatchesSpec", fn := fun _ => fun
  | [d1, d2] => { results := [.lit (.bool true)], args := [d1, d2] }
  | _ => none }
def suffixLongestMatchesSpecRow : OpenClaim := { program := "ytblmnncmkibhnaa", sum := "cb553f3705b715382ba53f0fa7f4508baf581318c675f0fbb730c3c6fba14cc4", func := "glosswright/glosswrightlaw7.SuffixLongestMatchesSpec", spec := "suffixLongestMatchesSpec", unfollowed := true, recurses := true, apart := false }
def SuffixLongestMatchesSpecSaid : Prop := suffixLongestMatchesSpecRow.holds Try.pinned (OpenSpec.ofChange suffixLongestMatchesSpecSpec)

/-- ITS FALSE NEIGHBOUR: 'it returns false'. Refute it at one input. -/
def suffixLongestMatchesSpecWrong : ChangeSpec := { name := "suffixLongestMatchesSpec", fn := fun _ => fun
  | [d1, d2] => { results := [.lit (.bool false)], args := [d1, d2] }
  | _ => none }
def SuffixLongestMatchesSpecWrongFalsely : Prop := suffixLongestMatchesSpecRow.holds Try.pinned (OpenSpec.ofChange suffixLongestMatchesSpecWrong)

/-- 'glosswrightlaw7.SuffixLongestIsFound': WHATEVER THE INPUT: true; the input reads as it did. -/
def suffixLongestIsFoundSpec : ChangeSpec := { name := "suffixLongestIsFound", fn := fun _ => fun
  | [d1, d2] => { results := [.lit (.bool true)], args := [d1, d2] }
  | _ => none }
def suffixLongestIsFoundRow : OpenClaim := { program := "ytblmnncmkibhnaa", sum := "cb553f3705b715382ba53f0fa7f4508baf581318c675f0fbb730c3c6fba14cc4", func := "glosswright/glosswrightlaw7.SuffixLongestIsFound", spec := "suffixLongestIsFound", unfollowed := true, recurses := true, apart := false }
def SuffixLongestIsFoundSaid : Prop := suffixLongestIsFoundRow.holds Try.pinned (OpenSpec.ofChange suffixLongestIsFoundSpec)

/-- ITS FALSE NEIGHBOUR: 'it returns false'. Refute it at one input. -/
def suffixLongestIsFoundWrong : ChangeSpec := { name := "suffixLongestIsFound", fn := fun _ => fun
  | [d1, d2] => { results := [.lit (.bool false)], args := [d1, d2] }
  | _ => none }
def SuffixLongestIsFoundWrongFalsely : Prop := suffixLongestIsFoundRow.holds Try.pinned (OpenSpec.ofChange suffixLongestIsFoundWrong)

/- THE SECOND FORM. 'bulk': how many values and letters a reading holds, each counted each time it is reached (what is shared counts as often as it is met; a slice's spare places count too). A statement '..UptoSaid' is the law's where the arguments, and the package variables that the reading takes, are together of bulk at most 1048576: NARROWER than '..Said'. Prove '..Said' where nothing that the law and all that it calls make is longer than what came in: it says more and counts as full. Else prove '..UptoSaid'. A law counts once. -/
mutual
def uptoBulk {H : Type} : DataW H → Nat
  | .lit (.string bytes) => bytes.length + 1
  | .lit _ => 1
  | .nil => 1
  | .ptr d => uptoBulk d + 1
  | .slice elems spare => uptoBulkAll elems + uptoBulkAll spare + 1
  | .agg parts => uptoBulkAll parts + 1
  | .iface _ d => uptoBulk d + 1
  | .map entries => uptoBulkEntries entries + 1
  | .held _ => 1
def uptoBulkAll {H : Type} : List (DataW H) → Nat
  | [] => 0
  | d :: r => uptoBulk d + uptoBulkAll r
def uptoBulkEntries {H : Type} : List (Lit × DataW H) → Nat
  | [] => 0
  | x :: r => uptoBulkEntry x + uptoBulkEntries r
def uptoBulkEntry {H : Type} : Lit × DataW H → Nat
  | (.string bytes, d) => bytes.length + uptoBulk d + 1
  | (_, d) => uptoBulk d + 1
 end
def uptoSmall : (H : Type) → List (DataW H) → Bool := fun _ ds => decide (uptoBulkAll ds ≤ 1048576)
def OpenSpec.upto (s : _root_.Go.ChangeSpec) : _root_.Go.OpenSpec := { _root_.Go.OpenSpec.ofChange s with cond := some uptoSmall }

/-- 'glosswrightlaw7.SuffixBuildMatchesSpec', WHERE WHAT IT READS IS OF BULK AT MOST 1048576: true; the input reads as it did. -/
def suffixBuildMatchesSpecUptoRow : OpenClaim := { program := "ytblmnncmkibhnaa", sum := "cb553f3705b715382ba53f0fa7f4508baf581318c675f0fbb730c3c6fba14cc4", func := "glosswright/glosswrightlaw7.SuffixBuildMatchesSpec", spec := "suffixBuildMatchesSpec", unfollowed := true, recurses := true, apart := false, narrowed := true }
def SuffixBuildMatchesSpecUptoSaid : Prop := suffixBuildMatchesSpecUptoRow.holds Try.pinned (OpenSpec.upto suffixBuildMatchesSpecSpec)

/-- 'glosswrightlaw7.SuffixFindMatchesSpec', WHERE WHAT IT READS IS OF BULK AT MOST 1048576: true; the input reads as it did. -/
def suffixFindMatchesSpecUptoRow : OpenClaim := { program := "ytblmnncmkibhnaa", sum := "cb553f3705b715382ba53f0fa7f4508baf581318c675f0fbb730c3c6fba14cc4", func := "glosswright/glosswrightlaw7.SuffixFindMatchesSpec", spec := "suffixFindMatchesSpec", unfollowed := true, recurses := true, apart := false, narrowed := true }
def SuffixFindMatchesSpecUptoSaid : Prop := suffixFindMatchesSpecUptoRow.holds Try.pinned (OpenSpec.upto suffixFindMatchesSpecSpec)

/-- 'glosswrightlaw7.SuffixExtends', WHERE WHAT IT READS IS OF BULK AT MOST 1048576: true; the input reads as it did. -/
def suffixExtendsUptoRow : OpenClaim := { program := "ytblmnncmkibhnaa", sum := "cb553f3705b715382ba53f0fa7f4508baf581318c675f0fbb730c3c6fba14cc4", func := "glosswright/glosswrightlaw7.SuffixExtends", spec := "suffixExtends", unfollowed := true, recurses := true, apart := false, narrowed := true }
def SuffixExtendsUptoSaid : Prop := suffixExtendsUptoRow.holds Try.pinned (OpenSpec.upto suffixExtendsSpec)

/-- 'glosswrightlaw7.SuffixCommonMatchesSpec', WHERE WHAT IT READS IS OF BULK AT MOST 1048576: true; the input reads as it did. -/
def suffixCommonMatchesSpecUptoRow : OpenClaim := { program := "ytblmnncmkibhnaa", sum := "cb553f3705b715382ba53f0fa7f4508baf581318c675f0fbb730c3c6fba14cc4", func := "glosswright/glosswrightlaw7.SuffixCommonMatchesSpec", spec := "suffixCommonMatchesSpec", unfollowed := true, recurses := true, apart := false, narrowed := true }
def SuffixCommonMatchesSpecUptoSaid : Prop := suffixCommonMatchesSpecUptoRow.holds Try.pinned (OpenSpec.upto suffixCommonMatchesSpecSpec)

/-- 'glosswrightlaw7.SuffixDistinctMatchesSpec', WHERE WHAT IT READS IS OF BULK AT MOST 1048576: true; the input reads as it did. -/
def suffixDistinctMatchesSpecUptoRow : OpenClaim := { program := "ytblmnncmkibhnaa", sum := "cb553f3705b715382ba53f0fa7f4508baf581318c675f0fbb730c3c6fba14cc4", func := "glosswright/glosswrightlaw7.SuffixDistinctMatchesSpec", spec := "suffixDistinctMatchesSpec", unfollowed := true, recurses := true, apart := false, narrowed := true }
def SuffixDistinctMatchesSpecUptoSaid : Prop := suffixDistinctMatchesSpecUptoRow.holds Try.pinned (OpenSpec.upto suffixDistinctMatchesSpecSpec)

/-- 'glosswrightlaw7.SuffixDistinctByCommon', WHERE WHAT IT READS IS OF BULK AT MOST 1048576: true; the input reads as it did. -/
def suffixDistinctByCommonUptoRow : OpenClaim := { program := "ytblmnncmkibhnaa", sum := "cb553f3705b715382ba53f0fa7f4508baf581318c675f0fbb730c3c6fba14cc4", func := "glosswright/glosswrightlaw7.SuffixDistinctByCommon", spec := "suffixDistinctByCommon", unfollowed := true, recurses := true, apart := false, narrowed := true }
def SuffixDistinctByCommonUptoSaid : Prop := suffixDistinctByCommonUptoRow.holds Try.pinned (OpenSpec.upto suffixDistinctByCommonSpec)

/-- 'glosswrightlaw7.SuffixLongestMatchesSpec', WHERE WHAT IT READS IS OF BULK AT MOST 1048576: true; the input reads as it did. -/
def suffixLongestMatchesSpecUptoRow : OpenClaim := { program := "ytblmnncmkibhnaa", sum := "cb553f3705b715382ba53f0fa7f4508baf581318c675f0fbb730c3c6fba14cc4", func := "glosswright/glosswrightlaw7.SuffixLongestMatchesSpec", spec := "suffixLongestMatchesSpec", unfollowed := true, recurses := true, apart := false, narrowed := true }
def SuffixLongestMatchesSpecUptoSaid : Prop := suffixLongestMatchesSpecUptoRow.holds Try.pinned (OpenSpec.upto suffixLongestMatchesSpecSpec)

/-- 'glosswrightlaw7.SuffixLongestIsFound', WHERE WHAT IT READS IS OF BULK AT MOST 1048576: true; the input reads as it did. -/
def suffixLongestIsFoundUptoRow : OpenClaim := { program := "ytblmnncmkibhnaa", sum := "cb553f3705b715382ba53f0fa7f4508baf581318c675f0fbb730c3c6fba14cc4", func := "glosswright/glosswrightlaw7.SuffixLongestIsFound", spec := "suffixLongestIsFound", unfollowed := true, recurses := true, apart := false, narrowed := true }
def SuffixLongestIsFoundUptoSaid : Prop := suffixLongestIsFoundUptoRow.holds Try.pinned (OpenSpec.upto suffixLongestIsFoundSpec)

end Rows
end Go.Proofs.Ytblmnncmkibhnaa
