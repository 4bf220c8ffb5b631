/-
  The law FracCompareMatchesSpec: for every input it returns true, and the input reads as it did.
  Conditions: none.
-/
import Derived.Test.YtilpbgnlofoacaaRows
import Derived.Test.YtilpbgnlofoacaaJT
import Derived.Test.YtilpbgnlofoacaaW7
namespace Go.Proofs.Ytilpbgnlofoacaa.fracCompare
open Go Go.J Go.ChangeShapes Go.WideShapes Go.ChangeAt Go.RowKit
set_option linter.unusedVariables false
set_option linter.unusedSimpArgs false
theorem own : ownKnob Try.prog.godebug = none := by kernel_rfl
theorem laidOut : laidOutB Try.prog = true := by kernel_rfl
theorem cells3 : Try.prog.cellsOf 3 = 1 := by kernel_rfl
theorem cells24 : Try.prog.cellsOf 24 = 2 := by kernel_rfl

theorem el_frac {H : Type} {enc : TypeId × Value → H} {W : World} (n : Nat) (cs : List Value) (y : DataW H × List MemPlace) (hl : cs.length = fracR.size) (h : DataW.trod enc Try.prog W 0 (fun _ => true) true n 24 cs = some y) : ∃ x : Pr, cs = fracR.cells x ∧ fracR.wf x := by
  obtain ⟨xs, k, _, _, _, hxl, hf⟩ := DataW.trod_struct Try.underlying24 h
  match cs, hl with
  | [c0, c1], _ =>
    have f0 := hf 0 _ rfl
    have f1 := hf 1 _ rfl
    simp [cells3] at f0 f1
    have l3 : xs.length = 2 := hxl
    match xs, l3 with
    | [y0, y1], _ =>
      obtain ⟨z, h0, _, w0⟩ := DataW.trod_int Try.underlying3 f0
      obtain ⟨s1, h1, _, w1⟩ := DataW.trod_int Try.underlying3 f1
      simp only [List.cons.injEq, and_true] at h0 h1
      subst h0 h1
      exact ⟨(z, s1), rfl, wf_i64 w0, wf_i64 w1⟩

theorem contract (H : Type) (enc : TypeId × Value → H) (W : World) (base : Nat) (args : Array Value) (ds gs : List (DataW H)) (before : List MemPlace)
    (hval : ∀ (j : Nat) t v, Try.f4.params[j]? = some t → args[j]? = some v → Value.okWide Try.prog W .any base t v)
    (hW : DataW.Whole enc Try.prog Try.f4.params.toList Rows.fracCompareMatchesSpecSpec.vars false W args.toList ds gs before)
    (hsz0 : (DataW.weightsEach Try.prog (Try.f4.params.toList ++ Rows.fracCompareMatchesSpecSpec.plain.varTypes Try.prog) (ds ++ gs)).all (· ≤ reachBytes) = true) :
    Calls Try.prog 4 args W fun e W' => ∃ v, e = .returned v ∧ Rows.fracCompareMatchesSpecSpec.post enc Try.prog Try.f4 false true false false W args v W' := by
  have hW' := hW
  obtain ⟨p, q, hA0, hV, rfl, hfz, hnd⟩ := hW
  have hA : DataW.TrodAll enc Try.prog W 0 (fun _ => true) true Try.f4.params.toList args.toList ds p := hA0
  have hsz : (DataW.weightsEach Try.prog (Try.f4.params.toList ++ Rows.fracCompareMatchesSpecSpec.plain.varTypes Try.prog) (ds ++ gs)).all (· ≤ reachBytes) = true := hsz0
  rw [Try.params4] at hA hval hsz
  obtain ⟨v0, v1, d0, d1, p0, p1, rfl, rfl, rfl, h0, h1⟩ := trodAll_two hA
  obtain ⟨rfl, rfl⟩ := trodVars_none hV
  clear hA0 hsz0
  simp only [List.append_nil] at hW'
  have hlt : ∀ x ∈ p0 ++ p1, x.block < W.heap.size := fun x hx => by simpa using hW'.lt x hx
  obtain ⟨c0, rfl, hc0⟩ := okWide_struct Try.underlying24 (hval 0 24 v0 rfl rfl)
  obtain ⟨n0, hn0⟩ := h0
  obtain ⟨a0, e0, w0⟩ := el_frac n0 _ _ (by rw [cells24] at hc0; simpa [Value.cells, fracR] using hc0) hn0
  have h0 : DataW.Trod enc Try.prog W 0 (fun _ => true) true 24 (.agg c0) d0 p0 := ⟨n0, hn0⟩
  obtain rfl : c0 = (fracR.cells a0).toArray := by rw [← e0]; simp [Value.cells]
  obtain ⟨c1, rfl, hc1⟩ := okWide_struct Try.underlying24 (hval 1 24 v1 rfl rfl)
  obtain ⟨n1, hn1⟩ := h1
  obtain ⟨a1, e1, w1⟩ := el_frac n1 _ _ (by rw [cells24] at hc1; simpa [Value.cells, fracR] using hc1) hn1
  have h1 : DataW.Trod enc Try.prog W 0 (fun _ => true) true 24 (.agg c1) d1 p1 := ⟨n1, hn1⟩
  obtain rfl : c1 = (fracR.cells a1).toArray := by rw [← e1]; simp [Value.cells]
  refine ((law4_spec a0 a1 w0 w1).below (W := W) (fun d hd => ?_)).mono ?_
  · cases hd
  · rintro e W' ⟨rfl, hb⟩
    have ha : ∀ {t v d p}, Try.prog.readableRec t = true → t < Try.prog.types.size → DataW.Trod enc Try.prog W 0 (fun _ => true) true t v d p → (∀ x ∈ p, x.block < W.heap.size) → DataW.Trod enc Try.prog W' 0 (fun b => decide (b < W.heap.size)) true t v d p :=
      fun hr ht h hl => Below.trod laidOut hr ht h hb hl
    refine ⟨_, rfl, _, _, _, [], _, [], hW', trodAll_mk1 (shut_bool Try.underlying4 _), trodAll_mk2 (ha (by kernel_rfl) (of_decide_eq_true (by kernel_rfl)) h0 fun x hx => hlt x (by simp [hx])) (ha (by kernel_rfl) (of_decide_eq_true (by kernel_rfl)) h1 fun x hx => hlt x (by simp [hx])), rfl, hb.frame _, fun h => by cases h⟩

set_option maxRecDepth 100000 in
theorem lifted (os : Os) (started : os.Started) (H : Type) (enc : TypeId × Value → H) :
    ReturnsInHanded {} Try.checked os 4 .any (Rows.fracCompareMatchesSpecSpec.pre6 enc Try.prog Try.f4 Rows.fracCompareMatchesSpecRow.domain false) (Rows.fracCompareMatchesSpecSpec.post enc Try.prog Try.f4 false true false false) := by
  refine returnsInHanded_of_change_sized (C := Try.checked) own started (by kernel_rfl) Try.func4
    (ChangeSpec.witness6 (enc := enc) (C := Try.checked) false ⟨#[], #[.agg #[.int .i64 0, .int .i64 0], .agg #[.int .i64 0, .int .i64 0]], []⟩ 8 (by kernel_rfl) (by kernel_rfl) (by kernel_rfl) (by kernel_rfl)) ?_
  intro W base args ds gs before hval hW _ hsz _
  exact contract H enc W base args ds gs before hval hW hsz

theorem holds : Rows.FracCompareMatchesSpecSaid :=
  OpenClaim.holds_of_wide 4 Try.f4 rfl rfl rfl rfl rfl rfl rfl ⟨rfl, rfl, rfl, rfl, rfl⟩ rfl rfl rfl rfl rfl (by kernel_rfl) Try.func4 (by kernel_rfl)
    (of_decide_eq_true (by kernel_rfl)) (by unfold Func.isWrapper; first | (rw [if_pos (by decide +kernel)]; kernel_rfl) | (rw [if_neg (by decide +kernel)]; exact ⟨rfl, rfl⟩))
    (fun os started H enc _ => lifted os started H enc)
#print axioms holds
end Go.Proofs.Ytilpbgnlofoacaa.fracCompare
