/-
  The law QueryLeavesAreWords: for every input it returns true, and the input reads as it did; its card: the listed variables are tied to the program's text.
  Conditions: none.
-/
import Derived.Test.YtolmidffiegkaaaDoorRows
import Derived.Test.YtolmidffiegkaaaDoorTie
import Derived.Test.YtolmidffiegkaaaDoorCards
import Derived.Test.YtolmidffiegkaaaDoorGC1
import Derived.Test.YtolmidffiegkaaaDoorGC2
import Derived.Test.YtolmidffiegkaaaDoorGC8
import Derived.ProofKit
import Derived.SevenTiedAt
/-
  The law QueryLeavesAreWords: for every input it returns true, and the input reads as it did; its card: the listed variables are tied to the program's text.
  Conditions: none.
-/
namespace Go.Proofs.YtolmidffiegkaaaDoor.qryLeaves
open Go Go.J Go.ChangeShapes Go.WideShapes Go.ChangeAt Go.RowKit
open Go.ChangeMaps (open_string)
set_option linter.unusedVariables false
set_option linter.unusedSimpArgs false
set_option maxRecDepth 100000
theorem own : ownKnob Tryd.prog.godebug = none := by kernel_rfl
theorem laidOut : laidOutB Tryd.prog = true := by kernel_rfl
theorem plainMet (W : World) : laidMetH Tryd.prog Rows.queryLeavesAreWordsRow.laid W = laidMet Tryd.prog Rows.queryLeavesAreWordsRow.laid W := MakeChecks.laidMetH_plain _ _ _ (by kernel_rfl)
theorem accEq : Rows.laid_unicode_utf8_acceptRanges = Lib.acceptData := by kernel_rfl
theorem firstEq : Rows.laid_unicode_utf8_first = Lib.firstData := by kernel_rfl
theorem tzEq : (Rows.laid_math_bits_deBruijn64tab : DataW Unit) = Lib.tabData .u8 (Lib.deBruijn64tab.map fun x : Nat => (x : Int)) := by kernel_rfl
theorem sgEq : (Rows.laid_glosswright_query_signs : DataW Unit) = .slice (signsQ.map fun s => .lit (.string s)) [] := by kernel_rfl
theorem tabs {W : World} (h : laidMetH Tryd.prog Rows.queryLeavesAreWordsRow.laid W) : U8Ok W :=
  utf8Tabs_of (by kernel_rfl) (by kernel_rfl) (by kernel_rfl) (by kernel_rfl) Tryd.underlying150 Tryd.underlying5 Tryd.underlying153 Tryd.underlying152 (fun i fd hi => by
    match i, hi with
    | 0, hi => simp at hi; subst hi; exact ⟨Tryd.underlying5, rfl, by kernel_rfl⟩
    | 1, hi => simp at hi; subst hi; exact ⟨Tryd.underlying5, rfl, by kernel_rfl⟩
    | i + 2, hi => simp at hi) rfl (by kernel_rfl) (by kernel_rfl) (by kernel_rfl) h (plainMet W) (by rw [← firstEq]; exact .tail _ (.tail _ (.tail _ (.head _)))) (by rw [← accEq]; exact .tail _ (.head _))
theorem u8_at {W : World} (h : U8Ok W) : u8.f (J.all W) := fun w hw => utf8Tabs_ext h hw
theorem globs {W : World} (h : laidMetH Tryd.prog Rows.queryLeavesAreWordsRow.laid W) : ∀ d ∈ [tz, u8, sgn], d.f (J.all W) := by
  have h' : laidMet Tryd.prog Rows.queryLeavesAreWordsRow.laid W := by rw [← plainMet]; exact h
  intro d hd
  simp only [List.mem_cons, List.not_mem_nil, or_false] at hd
  rcases hd with rfl | rfl | rfl
  · exact fun w hw => bytes_of (by kernel_rfl) (by kernel_rfl) Tryd.underlying159 Tryd.underlying5 (by kernel_rfl) (by kernel_rfl) (Lib.laidMet.reads h' (by rw [← tzEq]; exact .head _)) w hw
  · exact u8_at (tabs h)
  · exact strs_of (by kernel_rfl) (by kernel_rfl) Tryd.underlying54 Tryd.underlying9 (by kernel_rfl) (by decide) (by decide) (Lib.laidMet.reads h' (by rw [← sgEq]; exact .tail _ (.tail _ (.head _))))

theorem contract (H : Type) (enc : TypeId × Value → H) (W : World) (base : Nat) (args : Array Value) (ds gs : List (DataW H)) (before : List MemPlace)
    (hval : ∀ (j : Nat) t v, Tryd.f5.params[j]? = some t → args[j]? = some v → Value.okWide Tryd.prog W .any base t v)
    (hW : DataW.Whole enc Tryd.prog Tryd.f5.params.toList Rows.queryLeavesAreWordsSpec.vars false W args.toList ds gs before)
    (hsz0 : (DataW.weightsEach Tryd.prog (Tryd.f5.params.toList ++ (OpenSpec.ofChange Rows.queryLeavesAreWordsSpec).bare.plain.varTypes Tryd.prog) (ds ++ gs)).all (· ≤ reachBytes) = true) (hvars : ∀ d ∈ [tz, u8, sgn], d.f (J.all W)) :
    Calls Tryd.prog 5 args W fun e W' => ∃ v, e = .returned v ∧ Rows.queryLeavesAreWordsSpec.post enc Tryd.prog Tryd.f5 false true false false W args v W' := by
  have hW' := hW
  obtain ⟨p, q, hA0, hV, rfl, hfz, hnd⟩ := hW
  have hA : DataW.TrodAll enc Tryd.prog W 0 (fun _ => true) true Tryd.f5.params.toList args.toList ds p := hA0
  have hsz : (DataW.weightsEach Tryd.prog (Tryd.f5.params.toList ++ (OpenSpec.ofChange Rows.queryLeavesAreWordsSpec).bare.plain.varTypes Tryd.prog) (ds ++ gs)).all (· ≤ reachBytes) = true := hsz0
  rw [Tryd.params5] at hA hval hsz
  obtain ⟨v0, v1, d0, d1, p0, p1, rfl, rfl, rfl, h0, h1⟩ := trodAll_two hA
  obtain ⟨rfl, rfl⟩ := trodVars_none hV
  clear hA0 hsz0
  simp only [List.append_nil] at hW'
  have hlt : ∀ x ∈ p0 ++ p1, x.block < W.heap.size := fun x hx => by simpa using hW'.lt x hx
  obtain ⟨a0, rfl, f0⟩ := open_grm (hval 0 32 v0 rfl rfl) (wok_each (j := 0) hsz rfl rfl) h0
  obtain ⟨a1, rfl, k1, f1⟩ := open_tree (hval 1 35 v1 rfl rfl) (wok_each (j := 1) hsz rfl rfl) h1
  refine ((law5_spec a0 a1 k1).below (W := W) (fun d hd => ?_)).mono ?_
  · simp only [List.mem_cons, List.not_mem_nil, or_false] at hd
    rcases hd with rfl | rfl | rfl | rfl | rfl
    · exact f0
    · exact f1
    · exact hvars _ (by simp only [List.mem_cons, true_or, or_true])
    · exact hvars _ (by simp only [List.mem_cons, true_or, or_true])
    · exact hvars _ (by simp only [List.mem_cons, true_or, or_true])
  · rintro e W' ⟨rfl, hb⟩
    have ha : ∀ {t v d p}, Tryd.prog.readableRec t = true → t < Tryd.prog.types.size → DataW.Trod enc Tryd.prog W 0 (fun _ => true) true t v d p → (∀ x ∈ p, x.block < W.heap.size) → DataW.Trod enc Tryd.prog W' 0 (fun b => decide (b < W.heap.size)) true t v d p :=
      fun hr ht h hl => Below.trod laidOut hr ht h hb hl
    refine ⟨_, rfl, _, _, _, [], _, [], hW', trodAll_mk1 (shut_bool Tryd.underlying4 _), trodAll_mk2 (ha (by kernel_rfl) (of_decide_eq_true (by kernel_rfl)) h0 fun x hx => hlt x (by simp [hx])) (ha (by kernel_rfl) (of_decide_eq_true (by kernel_rfl)) h1 fun x hx => hlt x (by simp [hx])), rfl, hb.frame _, fun h => by cases h⟩

theorem laid_met (os : Os) : laidMetH Tryd.prog Rows.queryLeavesAreWordsRow.laid ((World.laidAll Tryd.prog os Rows.queryLeavesAreWordsRow.laid).forCall (fun _ _ => 0) ⟨#[], #[.agg #[.slice none 0 0, .slice none 0 0, .slice none 0 0, .slice none 0 0, .slice none 0 0], .agg #[.int .i64 0, .int .i64 0, .slice none 0 0]], []⟩).memory := by
  rw [plainMet]; exact laidMet_laidAll _ (by kernel_rfl) (by kernel_rfl)
theorem reads (os : Os) {H : Type} (enc : TypeId × Value → H) : DataW.whole enc Tryd.prog ((World.laidAll Tryd.prog os Rows.queryLeavesAreWordsRow.laid).forCall (fun _ _ => 0) ⟨#[], #[.agg #[.slice none 0 0, .slice none 0 0, .slice none 0 0, .slice none 0 0, .slice none 0 0], .agg #[.int .i64 0, .int .i64 0, .slice none 0 0]], []⟩).memory Tryd.f5.params.toList Rows.queryLeavesAreWordsSpec.vars false #[.agg #[.slice none 0 0, .slice none 0 0, .slice none 0 0, .slice none 0 0, .slice none 0 0], .agg #[.int .i64 0, .int .i64 0, .slice none 0 0]].toList 8 = some ([.agg [.agg [.nil, .nil], .nil, .nil, .agg [.nil]], .agg [.lit (.int .i64 0), .lit (.int .i64 0), .nil]], [], []) := by kernel_rfl
theorem lifted (os : Os) (started : os.Started) (H : Type) (enc : TypeId × Value → H) (F : Stop.Interp) :
    ReturnsInHanded {} Tryd.checked os 5 .any ((OpenSpec.ofChange Rows.queryLeavesAreWordsSpec).preRow enc Tryd.prog Tryd.f5 Rows.queryLeavesAreWordsRow.domain false Rows.queryLeavesAreWordsRow.laid) (((OpenSpec.ofChange Rows.queryLeavesAreWordsSpec).at F).post enc Tryd.prog Tryd.f5 false true false false) := by
  refine returnsInHanded_of_row (C := Tryd.checked) (s := (OpenSpec.ofChange Rows.queryLeavesAreWordsSpec)) own started (by kernel_rfl) Tryd.func5
    ⟨World.laidAll Tryd.prog os Rows.queryLeavesAreWordsRow.laid, fun _ _ => 0, ⟨#[], #[.agg #[.slice none 0 0, .slice none 0 0, .slice none 0 0, .slice none 0 0, .slice none 0 0], .agg #[.int .i64 0, .int .i64 0, .slice none 0 0]], []⟩, World.laidAll_os _ _ _, World.shaped_of_ZipB (by kernel_rfl) (by kernel_rfl), rfl,
      (Input.okWide_of_okWideB (P := Tryd.prog) (f := 5) (w := (World.laidAll Tryd.prog os Rows.queryLeavesAreWordsRow.laid).forCall (fun _ _ => 0) ⟨#[], #[.agg #[.slice none 0 0, .slice none 0 0, .slice none 0 0, .slice none 0 0, .slice none 0 0], .agg #[.int .i64 0, .int .i64 0, .slice none 0 0]], []⟩) (i := ⟨#[], #[.agg #[.slice none 0 0, .slice none 0 0, .slice none 0 0, .slice none 0 0, .slice none 0 0], .agg #[.int .i64 0, .int .i64 0, .slice none 0 0]], []⟩) (by kernel_rfl)).2,
      OpenSpec.preRow_of_cond 8 (reads os enc) (by kernel_rfl) (fun k hk => by cases hk) (by kernel_rfl) (laid_met os), by
        simp only [Assume.holds]
        exact ⟨by simp, by simp, fun _ => Modest.zero, by simp, by simp⟩⟩ ?_
  intro W base args ds gs before hval hW _ hcond hsz hL _ _
  exact contract H enc W base args ds gs before hval hW  hsz (globs hL)
theorem said : Rows.QueryLeavesAreWordsSaid :=
  OpenClaim.holds_of_cond 5 Tryd.f5 rfl rfl rfl rfl rfl rfl rfl ⟨rfl, rfl, rfl, rfl, rfl⟩ rfl rfl rfl rfl rfl (by kernel_rfl) Tryd.func5 (by kernel_rfl)
    (of_decide_eq_true (by kernel_rfl)) (by unfold Func.isWrapper; first | (rw [if_pos (by decide +kernel)]; kernel_rfl) | (rw [if_neg (by decide +kernel)]; exact ⟨rfl, rfl⟩))
    (fun os started H enc _ F => by rw [OpenClaim.pre_eq_preRow]; exact lifted os started H enc F)
theorem holds : Rows.QueryLeavesAreWordsCardSaid :=
  Claim7.holds_tied_plain_at .later [] [.data, .data, .data, .pinned] true (true, "50aa9a528600b15e8b66f714ac13147b03569ef32f5d67d5ead5c96130ce3625") false
    said (fun _ h => by cases h) (by kernel_rfl) (fun _ h => by cases h) queryLeavesAreWords_row_tie rfl ⟨rfl, rfl⟩ (by kernel_rfl) rfl
    (fun f fn hf hfn => by
      obtain rfl : f = 5 := Option.some.inj ((show Tryd.prog.funcNamed "glosswright/glosswrightlaw7.QueryLeavesAreWords" = some 5 by kernel_rfl).symm.trans hf) |>.symm
      obtain rfl : fn = Tryd.f5 := (Option.some.inj (Tryd.func5.symm.trans hfn)).symm
      exact ⟨by kernel_rfl, fun j t ht => by
        rw [Tryd.params5] at ht
        have hm : t ∈ [32, 35] := by simpa using Array.mem_of_getElem? ht
        have hall : ([32, 35].all fun u => !Tryd.prog.wantsStandIn u) = true := by kernel_rfl
        exact (show Tryd.prog.wantsStandIn t = false by simpa using List.all_eq_true.1 hall t hm)⟩)
    (by kernel_rfl)
#print axioms holds
end Go.Proofs.YtolmidffiegkaaaDoor.qryLeaves
