/-
  No cell of these rows narrows 'for every input' (looked for: loops, veiled, ifaces, maps, wideKeys, modest, calm, conditions, laid).
  DERIVED. THE GIVEN ROWS OF THIS SEAT. 6 by the template 'for every input the law returns true; each argument reads behind the call as it read before'; 0 by the template 'total and deterministic' (their statements: YtblnbjlcpleaaaaTotals.lean).
  GIVEN WITH THE SEED: the statements are not yours to turn. If you find one false, say at which input.
  Laid BY PROGRAM, IN A SANDBOX (cutbox-rows.mjs): the forced cells as the released guide's own fill.sh prints them over the translation e210d80a9e0b542b… (all of the seat's roots in one cut). By AI agents, Wed Nov 11 2026. No macro, syntax, notation, axiom, sorry.
-/
import Derived.Test.YtblnbjlcpleaaaaChecked
import GoSem.Claim
import GoSem.ClaimJoined
import GoSem.ClaimMapViews
import Derived.JoinedTies
import Derived.KernelRfl
namespace Go.Proofs.Ytblnbjlcpleaaaa
/- THE CELL 'sum', in the pinned program and in every row, IS THE sha256 OF THE DUMP (.gsa) THAT YtblnbjlcpleaaaaProg.lean LOADS. Nothing in Lean hashes anything: it is a label: what it is worth is what the hold of that sum in a sandbox is worth. -/
noncomputable def Try.pinned : Pinned := { name := "ytblnbjlcpleaaaa", sum := "e210d80a9e0b542ba0f0b045287bc039248d89a960e0558d1dbe5810136e7182", checked := Try.checked }
namespace Rows
def none {H : Type} : Left H := { results := [], args := [] }

/-- 'glosswrightlaw7.OrderAllowedMatchesSpec': WHATEVER THE INPUT: true; the input reads as it did. -/
def orderAllowedMatchesSpecSpec : ChangeSpec := { name := "orderAllowedMatchesSpec", fn := fun _ => fun
  | [d1, d2, d3] => { results := [.lit (.bool true)], args := [d1, d2, d3] }
  | _ => none }
def orderAllowedMatchesSpecRow : OpenClaim := { program := "ytblnbjlcpleaaaa", sum := "e210d80a9e0b542ba0f0b045287bc039248d89a960e0558d1dbe5810136e7182", func := "glosswright/glosswrightlaw7.OrderAllowedMatchesSpec", spec := "orderAllowedMatchesSpec", unfollowed := true, recurses := true, apart := false }
def OrderAllowedMatchesSpecSaid : Prop := orderAllowedMatchesSpecRow.holds Try.pinned (OpenSpec.ofChange orderAllowedMatchesSpecSpec)

/-- ITS FALSE NEIGHBOUR: 'it returns false'. Refute it at one input. -/
def orderAllowedMatchesSpecWrong : ChangeSpec := { name := "orderAllowedMatchesSpec", fn := fun _ => fun
  | [d1, d2, d3] => { results := [.lit (.bool false)], args := [d1, d2, d3] }
  | _ => none }
def OrderAllowedMatchesSpecWrongFalsely : Prop := orderAllowedMatchesSpecRow.holds Try.pinned (OpenSpec.ofChange orderAllowedMatchesSpecWrong)

/-- 'glosswrightlaw7.OrderMoreRules': WHATEVER THE INPUT: true; the input reads as it did. -/
def orderMoreRulesSpec : ChangeSpec := { name := "orderMoreRules", fn := fun _ => fun
  | [d1, d2, d3] => { results := [.lit (.bool true)], args := [d1, d2, d3] }
  | _ => none }
def orderMoreRulesRow : OpenClaim := { program := "ytblnbjlcpleaaaa", sum := "e210d80a9e0b542ba0f0b045287bc039248d89a960e0558d1dbe5810136e7182", func := "glosswright/glosswrightlaw7.OrderMoreRules", spec := "orderMoreRules", unfollowed := true, recurses := true, apart := false }
def OrderMoreRulesSaid : Prop := orderMoreRulesRow.holds Try.pinned (OpenSpec.ofChange orderMoreRulesSpec)

/-- ITS FALSE NEIGHBOUR: 'it returns false'. Refute it at one input. -/
def orderMoreRulesWrong : ChangeSpec := { name := "orderMoreRules", fn := fun _ => fun
  | [d1, d2, d3] => { results := [.lit (.bool false)], args := [d1, d2, d3] }
  | _ => none }
def OrderMoreRulesWrongFalsely : Prop := orderMoreRulesRow.holds Try.pinned (OpenSpec.ofChange orderMoreRulesWrong)

/-- 'glosswrightlaw7.OrderMirrored': WHATEVER THE INPUT: true; the input reads as it did. -/
def orderMirroredSpec : ChangeSpec := { name := "orderMirrored", fn := fun _ => fun
  | [d1, d2] => { results := [.lit (.bool true)], args := [d1, d2] }
  | _ => none }
def orderMirroredRow : OpenClaim := { program := "ytblnbjlcpleaaaa", sum := "e210d80a9e0b542ba0f0b045287bc039248d89a960e0558d1dbe5810136e7182", func := "glosswright/glosswrightlaw7.OrderMirrored", spec := "orderMirrored", unfollowed := true, recurses := true, apart := false }
def OrderMirroredSaid : Prop := orderMirroredRow.holds Try.pinned (OpenSpec.ofChange orderMirroredSpec)

/-- ITS FALSE NEIGHBOUR: 'it returns false'. Refute it at one input. -/
def orderMirroredWrong : ChangeSpec := { name := "orderMirrored", fn := fun _ => fun
  | [d1, d2] => { results := [.lit (.bool false)], args := [d1, d2] }
  | _ => none }
def OrderMirroredWrongFalsely : Prop := orderMirroredRow.holds Try.pinned (OpenSpec.ofChange orderMirroredWrong)

/-- 'glosswrightlaw7.OrderMatchesSpec': WHATEVER THE INPUT: true; the input reads as it did. -/
def orderMatchesSpecSpec : ChangeSpec := { name := "orderMatchesSpec", fn := fun _ => fun
  | [d1, d2] => { results := [.lit (.bool true)], args := [d1, d2] }
  | _ => none }
def orderMatchesSpecRow : OpenClaim := { program := "ytblnbjlcpleaaaa", sum := "e210d80a9e0b542ba0f0b045287bc039248d89a960e0558d1dbe5810136e7182", func := "glosswright/glosswrightlaw7.OrderMatchesSpec", spec := "orderMatchesSpec", unfollowed := true, recurses := true, apart := false }
def OrderMatchesSpecSaid : Prop := orderMatchesSpecRow.holds Try.pinned (OpenSpec.ofChange orderMatchesSpecSpec)

/-- ITS FALSE NEIGHBOUR: 'it returns false'. Refute it at one input. -/
def orderMatchesSpecWrong : ChangeSpec := { name := "orderMatchesSpec", fn := fun _ => fun
  | [d1, d2] => { results := [.lit (.bool false)], args := [d1, d2] }
  | _ => none }
def OrderMatchesSpecWrongFalsely : Prop := orderMatchesSpecRow.holds Try.pinned (OpenSpec.ofChange orderMatchesSpecWrong)

/-- 'glosswrightlaw7.OrderRowsMatchesSpec': WHATEVER THE INPUT: true; the input reads as it did. -/
def orderRowsMatchesSpecSpec : ChangeSpec := { name := "orderRowsMatchesSpec", fn := fun _ => fun
  | [d1, d2] => { results := [.lit (.bool true)], args := [d1, d2] }
  | _ => none }
def orderRowsMatchesSpecRow : OpenClaim := { program := "ytblnbjlcpleaaaa", sum := "e210d80a9e0b542ba0f0b045287bc039248d89a960e0558d1dbe5810136e7182", func := "glosswright/glosswrightlaw7.OrderRowsMatchesSpec", spec := "orderRowsMatchesSpec", unfollowed := true, recurses := true, apart := false }
def OrderRowsMatchesSpecSaid : Prop := orderRowsMatchesSpecRow.holds Try.pinned (OpenSpec.ofChange orderRowsMatchesSpecSpec)

/-- ITS FALSE NEIGHBOUR: 'it returns false'. Refute it at one input. -/
def orderRowsMatchesSpecWrong : ChangeSpec := { name := "orderRowsMatchesSpec", fn := fun _ => fun
  | [d1, d2] => { results := [.lit (.bool false)], args := [d1, d2] }
  | _ => none }
def OrderRowsMatchesSpecWrongFalsely : Prop := orderRowsMatchesSpecRow.holds Try.pinned (OpenSpec.ofChange orderRowsMatchesSpecWrong)

/-- 'glosswrightlaw7.OrderExchanged': WHATEVER THE INPUT: true; the input reads as it did. -/
def orderExchangedSpec : ChangeSpec := { name := "orderExchanged", fn := fun _ => fun
  | [d1, d2] => { results := [.lit (.bool true)], args := [d1, d2] }
  | _ => none }
def orderExchangedRow : OpenClaim := { program := "ytblnbjlcpleaaaa", sum := "e210d80a9e0b542ba0f0b045287bc039248d89a960e0558d1dbe5810136e7182", func := "glosswright/glosswrightlaw7.OrderExchanged", spec := "orderExchanged", unfollowed := true, recurses := true, apart := false }
def OrderExchangedSaid : Prop := orderExchangedRow.holds Try.pinned (OpenSpec.ofChange orderExchangedSpec)

/-- ITS FALSE NEIGHBOUR: 'it returns false'. Refute it at one input. -/
def orderExchangedWrong : ChangeSpec := { name := "orderExchanged", fn := fun _ => fun
  | [d1, d2] => { results := [.lit (.bool false)], args := [d1, d2] }
  | _ => none }
def OrderExchangedWrongFalsely : Prop := orderExchangedRow.holds Try.pinned (OpenSpec.ofChange orderExchangedWrong)

/- THE SECOND FORM. 'bulk': how many values and letters a reading holds, each counted each time it is reached (what is shared counts as often as it is met; a slice's spare places count too). A statement '..UptoSaid' is the law's where the arguments, and the package variables that the reading takes, are together of bulk at most 1048576: NARROWER than '..Said'. Prove '..Said' where nothing that the law and all that it calls make is longer than what came in: it says more and counts as full. Else prove '..UptoSaid'. A law counts once. -/
mutual
def uptoBulk {H : Type} : DataW H → Nat
  | .lit (.string bytes) => bytes.length + 1
  | .lit _ => 1
  | .nil => 1
  | .ptr d => uptoBulk d + 1
  | .slice elems spare => uptoBulkAll elems + uptoBulkAll spare + 1
  | .agg parts => uptoBulkAll parts + 1
  | .iface _ d => uptoBulk d + 1
  | .map entries => uptoBulkEntries entries + 1
  | .held _ => 1
def uptoBulkAll {H : Type} : List (DataW H) → Nat
  | [] => 0
  | d :: r => uptoBulk d + uptoBulkAll r
def uptoBulkEntries {H : Type} : List (Lit × DataW H) → Nat
  | [] => 0
  | x :: r => uptoBulkEntry x + uptoBulkEntries r
def uptoBulkEntry {H : Type} : Lit × DataW H → Nat
  | (.string bytes, d) => bytes.length + uptoBulk d + 1
  | (_, d) => uptoBulk d + 1
 end
def uptoSmall : (H : Type) → List (DataW H) → Bool := fun _ ds => decide (uptoBulkAll ds ≤ 1048576)
def OpenSpec.upto (s : _root_.Go.ChangeSpec) : _root_.Go.OpenSpec := { _root_.Go.OpenSpec.ofChange s with cond := some uptoSmall }

/-- 'glosswrightlaw7.OrderAllowedMatchesSpec', WHERE WHAT IT READS IS OF BULK AT MOST 1048576: true; the input reads as it did. -/
def orderAllowedMatchesSpecUptoRow : OpenClaim := { program := "ytblnbjlcpleaaaa", sum := "e210d80a9e0b542ba0f0b045287bc039248d89a960e0558d1dbe5810136e7182", func := "glosswright/glosswrightlaw7.OrderAllowedMatchesSpec", spec := "orderAllowedMatchesSpec", unfollowed := true, recurses := true, apart := false, narrowed := true }
def OrderAllowedMatchesSpecUptoSaid : Prop := orderAllowedMatchesSpecUptoRow.holds Try.pinned (OpenSpec.upto orderAllowedMatchesSpecSpec)

/-- 'glosswrightlaw7.OrderMoreRules', WHERE WHAT IT READS IS OF BULK AT MOST 1048576: true; the input reads as it did. -/
def orderMoreRulesUptoRow : OpenClaim := { program := "ytblnbjlcpleaaaa", sum := "e210d80a9e0b542ba0f0b045287bc039248d89a960e0558d1dbe5810136e7182", func := "glosswright/glosswrightlaw7.OrderMoreRules", spec := "orderMoreRules", unfollowed := true, recurses := true, apart := false, narrowed := true }
def OrderMoreRulesUptoSaid : Prop := orderMoreRulesUptoRow.holds Try.pinned (OpenSpec.upto orderMoreRulesSpec)

/-- 'glosswrightlaw7.OrderMirrored', WHERE WHAT IT READS IS OF BULK AT MOST 1048576: true; the input reads as it did. -/
def orderMirroredUptoRow : OpenClaim := { program := "ytblnbjlcpleaaaa", sum := "e210d80a9e0b542ba0f0b045287bc039248d89a960e0558d1dbe5810136e7182", func := "glosswright/glosswrightlaw7.OrderMirrored", spec := "orderMirrored", unfollowed := true, recurses := true, apart := false, narrowed := true }
def OrderMirroredUptoSaid : Prop := orderMirroredUptoRow.holds Try.pinned (OpenSpec.upto orderMirroredSpec)

/-- 'glosswrightlaw7.OrderMatchesSpec', WHERE WHAT IT READS IS OF BULK AT MOST 1048576: true; the input reads as it did. -/
def orderMatchesSpecUptoRow : OpenClaim := { program := "ytblnbjlcpleaaaa", sum := "e210d80a9e0b542ba0f0b045287bc039248d89a960e0558d1dbe5810136e7182", func := "glosswright/glosswrightlaw7.OrderMatchesSpec", spec := "orderMatchesSpec", unfollowed := true, recurses := true, apart := false, narrowed := true }
def OrderMatchesSpecUptoSaid : Prop := orderMatchesSpecUptoRow.holds Try.pinned (OpenSpec.upto orderMatchesSpecSpec)

/-- 'glosswrightlaw7.OrderRowsMatchesSpec', WHERE WHAT IT READS IS OF BULK AT MOST 1048576: true; the input reads as it did. -/
def orderRowsMatchesSpecUptoRow : OpenClaim := { program := "ytblnbjlcpleaaaa", sum := "e210d80a9e0b542ba0f0b045287bc039248d89a960e0558d1dbe5810136e7182", func := "glosswright/glosswrightlaw7.OrderRowsMatchesSpec", spec := "orderRowsMatchesSpec", unfollowed := true, recurses := true, apart := false, narrowed := true }
def OrderRowsMatchesSpecUptoSaid : Prop := orderRowsMatchesSpecUptoRow.holds Try.pinned (OpenSpec.upto orderRowsMatchesSpecSpec)

/-- 'glosswrightlaw7.OrderExchanged', WHERE WHAT IT READS IS OF BULK AT MOST 1048576: true; the input reads as it did. -/
def orderExchangedUptoRow : OpenClaim := { program := "ytblnbjlcpleaaaa", sum := "e210d80a9e0b542ba0f0b045287bc039248d89a960e0558d1dbe5810136e7182", func := "glosswright/glosswrightlaw7.OrderExchanged", spec := "orderExchanged", unfollowed := true, recurses := true, apart := false, narrowed := true }
def OrderExchangedUptoSaid : Prop := orderExchangedUptoRow.holds Try.pinned (OpenSpec.upto orderExchangedSpec)

end Rows
end Go.Proofs.Ytblnbjlcpleaaaa
