/-
  No cell of these rows narrows 'for every input' (looked for: loops, veiled, ifaces, maps, wideKeys, modest, calm, conditions, laid).
  DERIVED. THE GIVEN ROWS OF THIS SEAT. 7 by the template 'for every input the law returns true; each argument reads behind the call as it read before'; 0 by the template 'total and deterministic' (their statements: YtilpbgnlofoacaaTotals.lean).
  GIVEN WITH THE SEED: the statements are not yours to turn. If you find one false, say at which input.
  Laid BY PROGRAM, IN A SANDBOX (cutbox-rows.mjs): the forced cells as the released guide's own fill.sh prints them over the translation 8387fa39d0fffade… (all of the seat's roots in one cut). By AI agents, Wed Nov 11 2026. No macro, syntax, notation, axiom, sorry.
-/
import Derived.Test.YtilpbgnlofoacaaChecked
import GoSem.Claim
import GoSem.ClaimJoined
import GoSem.ClaimMapViews
import Derived.JoinedTies
import Derived.KernelRfl
namespace Go.Proofs.Ytilpbgnlofoacaa
/- THE CELL 'sum', in the pinned program and in every row, IS THE sha256 OF THE DUMP (.gsa) THAT YtilpbgnlofoacaaProg.lean LOADS. Nothing in Lean hashes anything: it is a label: what it is worth is what the hold of that sum in a sandbox is worth. -/
noncomputable def Try.pinned : Pinned := { name := "ytilpbgnlofoacaa", sum := "8387fa39d0fffadebda00c820d45dd5b3772cb0b3b6c46f04560582172dadaca", checked := Try.checked }
namespace Rows
def none {H : Type} : Left H := { results := [], args := [] }

/-- 'glosswrightlaw7.FracMakeMatchesSpec': WHATEVER THE INPUT: true; the input reads as it did. -/
def fracMakeMatchesSpecSpec : ChangeSpec := { name := "fracMakeMatchesSpec", fn := fun _ => fun
  | [d1, d2] => { results := [.lit (.bool true)], args := [d1, d2] }
  | _ => none }
def fracMakeMatchesSpecRow : OpenClaim := { program := "ytilpbgnlofoacaa", sum := "8387fa39d0fffadebda00c820d45dd5b3772cb0b3b6c46f04560582172dadaca", func := "glosswright/glosswrightlaw7.FracMakeMatchesSpec", spec := "fracMakeMatchesSpec", inPlace := ["math/bits.Add64", "math/bits.Sub64"], named := ["math/bits.divideError", "math/bits.overflowError"], apart := false }
def FracMakeMatchesSpecSaid : Prop := fracMakeMatchesSpecRow.holds Try.pinned (OpenSpec.ofChange fracMakeMatchesSpecSpec)

/-- ITS FALSE NEIGHBOUR: 'it returns false'. Refute it at one input. -/
def fracMakeMatchesSpecWrong : ChangeSpec := { name := "fracMakeMatchesSpec", fn := fun _ => fun
  | [d1, d2] => { results := [.lit (.bool false)], args := [d1, d2] }
  | _ => none }
def FracMakeMatchesSpecWrongFalsely : Prop := fracMakeMatchesSpecRow.holds Try.pinned (OpenSpec.ofChange fracMakeMatchesSpecWrong)

/-- 'glosswrightlaw7.FracCompareMatchesSpec': WHATEVER THE INPUT: true; the input reads as it did. -/
def fracCompareMatchesSpecSpec : ChangeSpec := { name := "fracCompareMatchesSpec", fn := fun _ => fun
  | [d1, d2] => { results := [.lit (.bool true)], args := [d1, d2] }
  | _ => none }
def fracCompareMatchesSpecRow : OpenClaim := { program := "ytilpbgnlofoacaa", sum := "8387fa39d0fffadebda00c820d45dd5b3772cb0b3b6c46f04560582172dadaca", func := "glosswright/glosswrightlaw7.FracCompareMatchesSpec", spec := "fracCompareMatchesSpec", inPlace := ["math/bits.Add64", "math/bits.Sub64"], named := ["math/bits.divideError", "math/bits.overflowError"], apart := false }
def FracCompareMatchesSpecSaid : Prop := fracCompareMatchesSpecRow.holds Try.pinned (OpenSpec.ofChange fracCompareMatchesSpecSpec)

/-- ITS FALSE NEIGHBOUR: 'it returns false'. Refute it at one input. -/
def fracCompareMatchesSpecWrong : ChangeSpec := { name := "fracCompareMatchesSpec", fn := fun _ => fun
  | [d1, d2] => { results := [.lit (.bool false)], args := [d1, d2] }
  | _ => none }
def FracCompareMatchesSpecWrongFalsely : Prop := fracCompareMatchesSpecRow.holds Try.pinned (OpenSpec.ofChange fracCompareMatchesSpecWrong)

/-- 'glosswrightlaw7.FracDistributes': WHATEVER THE INPUT: true; the input reads as it did. -/
def fracDistributesSpec : ChangeSpec := { name := "fracDistributes", fn := fun _ => fun
  | [d1, d2, d3] => { results := [.lit (.bool true)], args := [d1, d2, d3] }
  | _ => none }
def fracDistributesRow : OpenClaim := { program := "ytilpbgnlofoacaa", sum := "8387fa39d0fffadebda00c820d45dd5b3772cb0b3b6c46f04560582172dadaca", func := "glosswright/glosswrightlaw7.FracDistributes", spec := "fracDistributes", inPlace := ["math/bits.Add64", "math/bits.Sub64"], named := ["math/bits.divideError", "math/bits.overflowError"], apart := false }
def FracDistributesSaid : Prop := fracDistributesRow.holds Try.pinned (OpenSpec.ofChange fracDistributesSpec)

/-- ITS FALSE NEIGHBOUR: 'it returns false'. Refute it at one input. -/
def fracDistributesWrong : ChangeSpec := { name := "fracDistributes", fn := fun _ => fun
  | [d1, d2, d3] => { results := [.lit (.bool false)], args := [d1, d2, d3] }
  | _ => none }
def FracDistributesWrongFalsely : Prop := fracDistributesRow.holds Try.pinned (OpenSpec.ofChange fracDistributesWrong)

/-- 'glosswrightlaw7.FracOrder': WHATEVER THE INPUT: true; the input reads as it did. -/
def fracOrderSpec : ChangeSpec := { name := "fracOrder", fn := fun _ => fun
  | [d1, d2, d3] => { results := [.lit (.bool true)], args := [d1, d2, d3] }
  | _ => none }
def fracOrderRow : OpenClaim := { program := "ytilpbgnlofoacaa", sum := "8387fa39d0fffadebda00c820d45dd5b3772cb0b3b6c46f04560582172dadaca", func := "glosswright/glosswrightlaw7.FracOrder", spec := "fracOrder", inPlace := ["math/bits.Add64", "math/bits.Sub64"], named := ["math/bits.divideError", "math/bits.overflowError"], apart := false }
def FracOrderSaid : Prop := fracOrderRow.holds Try.pinned (OpenSpec.ofChange fracOrderSpec)

/-- ITS FALSE NEIGHBOUR: 'it returns false'. Refute it at one input. -/
def fracOrderWrong : ChangeSpec := { name := "fracOrder", fn := fun _ => fun
  | [d1, d2, d3] => { results := [.lit (.bool false)], args := [d1, d2, d3] }
  | _ => none }
def FracOrderWrongFalsely : Prop := fracOrderRow.holds Try.pinned (OpenSpec.ofChange fracOrderWrong)

/-- 'glosswrightlaw7.FracSumMatchesSpec': WHATEVER THE INPUT: true; the input reads as it did. -/
def fracSumMatchesSpecSpec : ChangeSpec := { name := "fracSumMatchesSpec", fn := fun _ => fun
  | [d] => { results := [.lit (.bool true)], args := [d] }
  | _ => none }
def fracSumMatchesSpecRow : OpenClaim := { program := "ytilpbgnlofoacaa", sum := "8387fa39d0fffadebda00c820d45dd5b3772cb0b3b6c46f04560582172dadaca", func := "glosswright/glosswrightlaw7.FracSumMatchesSpec", spec := "fracSumMatchesSpec", inPlace := ["math/bits.Add64", "math/bits.Sub64"], named := ["math/bits.divideError", "math/bits.overflowError"], apart := false }
def FracSumMatchesSpecSaid : Prop := fracSumMatchesSpecRow.holds Try.pinned (OpenSpec.ofChange fracSumMatchesSpecSpec)

/-- ITS FALSE NEIGHBOUR: 'it returns false'. Refute it at one input. -/
def fracSumMatchesSpecWrong : ChangeSpec := { name := "fracSumMatchesSpec", fn := fun _ => fun
  | [d] => { results := [.lit (.bool false)], args := [d] }
  | _ => none }
def FracSumMatchesSpecWrongFalsely : Prop := fracSumMatchesSpecRow.holds Try.pinned (OpenSpec.ofChange fracSumMatchesSpecWrong)

/-- 'glosswrightlaw7.FracUndoes': WHATEVER THE INPUT: true; the input reads as it did. -/
def fracUndoesSpec : ChangeSpec := { name := "fracUndoes", fn := fun _ => fun
  | [d1, d2] => { results := [.lit (.bool true)], args := [d1, d2] }
  | _ => none }
def fracUndoesRow : OpenClaim := { program := "ytilpbgnlofoacaa", sum := "8387fa39d0fffadebda00c820d45dd5b3772cb0b3b6c46f04560582172dadaca", func := "glosswright/glosswrightlaw7.FracUndoes", spec := "fracUndoes", inPlace := ["math/bits.Add64", "math/bits.Sub64"], named := ["math/bits.divideError", "math/bits.overflowError"], apart := false }
def FracUndoesSaid : Prop := fracUndoesRow.holds Try.pinned (OpenSpec.ofChange fracUndoesSpec)

/-- ITS FALSE NEIGHBOUR: 'it returns false'. Refute it at one input. -/
def fracUndoesWrong : ChangeSpec := { name := "fracUndoes", fn := fun _ => fun
  | [d1, d2] => { results := [.lit (.bool false)], args := [d1, d2] }
  | _ => none }
def FracUndoesWrongFalsely : Prop := fracUndoesRow.holds Try.pinned (OpenSpec.ofChange fracUndoesWrong)

/-- 'glosswrightlaw7.FracMatchesSpec': WHATEVER THE INPUT: true; the input reads as it did. -/
def fracMatchesSpecSpec : ChangeSpec := { name := "fracMatchesSpec", fn := fun _ => fun
  | [d1, d2] => { results := [.lit (.bool true)], args := [d1, d2] }
  | _ => none }
def fracMatchesSpecRow : OpenClaim := { program := "ytilpbgnlofoacaa", sum := "8387fa39d0fffadebda00c820d45dd5b3772cb0b3b6c46f04560582172dadaca", func := "glosswright/glosswrightlaw7.FracMatchesSpec", spec := "fracMatchesSpec", inPlace := ["math/bits.Add64", "math/bits.Sub64"], named := ["math/bits.divideError", "math/bits.overflowError"], apart := false }
def FracMatchesSpecSaid : Prop := fracMatchesSpecRow.holds Try.pinned (OpenSpec.ofChange fracMatchesSpecSpec)

/-- ITS FALSE NEIGHBOUR: 'it returns false'. Refute it at one input. -/
def fracMatchesSpecWrong : ChangeSpec := { name := "fracMatchesSpec", fn := fun _ => fun
  | [d1, d2] => { results := [.lit (.bool false)], args := [d1, d2] }
  | _ => none }
def FracMatchesSpecWrongFalsely : Prop := fracMatchesSpecRow.holds Try.pinned (OpenSpec.ofChange fracMatchesSpecWrong)

/- THE SECOND FORM. 'bulk': how many values and letters a reading holds, each counted each time it is reached (what is shared counts as often as it is met; a slice's spare places count too). A statement '..UptoSaid' is the law's where the arguments, and the package variables that the reading takes, are together of bulk at most 1048576: NARROWER than '..Said'. Prove '..Said' where nothing that the law and all that it calls make is longer than what came in: it says more and counts as full. Else prove '..UptoSaid'. A law counts once. -/
mutual
def uptoBulk {H : Type} : DataW H → Nat
  | .lit (.string bytes) => bytes.length + 1
  | .lit _ => 1
  | .nil => 1
  | .ptr d => uptoBulk d + 1
  | .slice elems spare => uptoBulkAll elems + uptoBulkAll spare + 1
  | .agg parts => uptoBulkAll parts + 1
  | .iface _ d => uptoBulk d + 1
  | .map entries => uptoBulkEntries entries + 1
  | .held _ => 1
def uptoBulkAll {H : Type} : List (DataW H) → Nat
  | [] => 0
  | d :: r => uptoBulk d + uptoBulkAll r
def uptoBulkEntries {H : Type} : List (Lit × DataW H) → Nat
  | [] => 0
  | x :: r => uptoBulkEntry x + uptoBulkEntries r
def uptoBulkEntry {H : Type} : Lit × DataW H → Nat
  | (.string bytes, d) => bytes.length + uptoBulk d + 1
  | (_, d) => uptoBulk d + 1
 end
def uptoSmall : (H : Type) → List (DataW H) → Bool := fun _ ds => decide (uptoBulkAll ds ≤ 1048576)
def OpenSpec.upto (s : _root_.Go.ChangeSpec) : _root_.Go.OpenSpec := { _root_.Go.OpenSpec.ofChange s with cond := some uptoSmall }

/-- 'glosswrightlaw7.FracMakeMatchesSpec', WHERE WHAT IT READS IS OF BULK AT MOST 1048576: true; the input reads as it did. -/
def fracMakeMatchesSpecUptoRow : OpenClaim := { program := "ytilpbgnlofoacaa", sum := "8387fa39d0fffadebda00c820d45dd5b3772cb0b3b6c46f04560582172dadaca", func := "glosswright/glosswrightlaw7.FracMakeMatchesSpec", spec := "fracMakeMatchesSpec", inPlace := ["math/bits.Add64", "math/bits.Sub64"], named := ["math/bits.divideError", "math/bits.overflowError"], apart := false, narrowed := true }
def FracMakeMatchesSpecUptoSaid : Prop := fracMakeMatchesSpecUptoRow.holds Try.pinned (OpenSpec.upto fracMakeMatchesSpecSpec)

/-- 'glosswrightlaw7.FracCompareMatchesSpec', WHERE WHAT IT READS IS OF BULK AT MOST 1048576: true; the input reads as it did. -/
def fracCompareMatchesSpecUptoRow : OpenClaim := { program := "ytilpbgnlofoacaa", sum := "8387fa39d0fffadebda00c820d45dd5b3772cb0b3b6c46f04560582172dadaca", func := "glosswright/glosswrightlaw7.FracCompareMatchesSpec", spec := "fracCompareMatchesSpec", inPlace := ["math/bits.Add64", "math/bits.Sub64"], named := ["math/bits.divideError", "math/bits.overflowError"], apart := false, narrowed := true }
def FracCompareMatchesSpecUptoSaid : Prop := fracCompareMatchesSpecUptoRow.holds Try.pinned (OpenSpec.upto fracCompareMatchesSpecSpec)

/-- 'glosswrightlaw7.FracDistributes', WHERE WHAT IT READS IS OF BULK AT MOST 1048576: true; the input reads as it did. -/
def fracDistributesUptoRow : OpenClaim := { program := "ytilpbgnlofoacaa", sum := "8387fa39d0fffadebda00c820d45dd5b3772cb0b3b6c46f04560582172dadaca", func := "glosswright/glosswrightlaw7.FracDistributes", spec := "fracDistributes", inPlace := ["math/bits.Add64", "math/bits.Sub64"], named := ["math/bits.divideError", "math/bits.overflowError"], apart := false, narrowed := true }
def FracDistributesUptoSaid : Prop := fracDistributesUptoRow.holds Try.pinned (OpenSpec.upto fracDistributesSpec)

/-- 'glosswrightlaw7.FracOrder', WHERE WHAT IT READS IS OF BULK AT MOST 1048576: true; the input reads as it did. -/
def fracOrderUptoRow : OpenClaim := { program := "ytilpbgnlofoacaa", sum := "8387fa39d0fffadebda00c820d45dd5b3772cb0b3b6c46f04560582172dadaca", func := "glosswright/glosswrightlaw7.FracOrder", spec := "fracOrder", inPlace := ["math/bits.Add64", "math/bits.Sub64"], named := ["math/bits.divideError", "math/bits.overflowError"], apart := false, narrowed := true }
def FracOrderUptoSaid : Prop := fracOrderUptoRow.holds Try.pinned (OpenSpec.upto fracOrderSpec)

/-- 'glosswrightlaw7.FracSumMatchesSpec', WHERE WHAT IT READS IS OF BULK AT MOST 1048576: true; the input reads as it did. -/
def fracSumMatchesSpecUptoRow : OpenClaim := { program := "ytilpbgnlofoacaa", sum := "8387fa39d0fffadebda00c820d45dd5b3772cb0b3b6c46f04560582172dadaca", func := "glosswright/glosswrightlaw7.FracSumMatchesSpec", spec := "fracSumMatchesSpec", inPlace := ["math/bits.Add64", "math/bits.Sub64"], named := ["math/bits.divideError", "math/bits.overflowError"], apart := false, narrowed := true }
def FracSumMatchesSpecUptoSaid : Prop := fracSumMatchesSpecUptoRow.holds Try.pinned (OpenSpec.upto fracSumMatchesSpecSpec)

/-- 'glosswrightlaw7.FracUndoes', WHERE WHAT IT READS IS OF BULK AT MOST 1048576: true; the input reads as it did. -/
def fracUndoesUptoRow : OpenClaim := { program := "ytilpbgnlofoacaa", sum := "8387fa39d0fffadebda00c820d45dd5b3772cb0b3b6c46f04560582172dadaca", func := "glosswright/glosswrightlaw7.FracUndoes", spec := "fracUndoes", inPlace := ["math/bits.Add64", "math/bits.Sub64"], named := ["math/bits.divideError", "math/bits.overflowError"], apart := false, narrowed := true }
def FracUndoesUptoSaid : Prop := fracUndoesUptoRow.holds Try.pinned (OpenSpec.upto fracUndoesSpec)

/-- 'glosswrightlaw7.FracMatchesSpec', WHERE WHAT IT READS IS OF BULK AT MOST 1048576: true; the input reads as it did. -/
def fracMatchesSpecUptoRow : OpenClaim := { program := "ytilpbgnlofoacaa", sum := "8387fa39d0fffadebda00c820d45dd5b3772cb0b3b6c46f04560582172dadaca", func := "glosswright/glosswrightlaw7.FracMatchesSpec", spec := "fracMatchesSpec", inPlace := ["math/bits.Add64", "math/bits.Sub64"], named := ["math/bits.divideError", "math/bits.overflowError"], apart := false, narrowed := true }
def FracMatchesSpecUptoSaid : Prop := fracMatchesSpecUptoRow.holds Try.pinned (OpenSpec.upto fracMatchesSpecSpec)

end Rows
end Go.Proofs.Ytilpbgnlofoacaa
