/-
  The law ConcordGramsMatchesSpec: for every input it returns true, and the input reads as it did; its card: the listed variables are tied to the program's text.
  Conditions: none.
-/
import Derived.Test.YtgikcbfdonjggaaGreatDoorRows
import Derived.Test.YtgikcbfdonjggaaGreatDoorTie
import Derived.Test.YtgikcbfdonjggaaGreatDoorCards
import Derived.Test.YtgikcbfdonjggaaGreatDoorGF2
import Derived.Test.YtgikcbfdonjggaaGreatDoorGF6
import Derived.ProofKit
import Derived.SevenTiedAt
/-
  The law ConcordGramsMatchesSpec: for every input it returns true, and the input reads as it did; its card: the listed variables are tied to the program's text.
  Conditions: none.
-/
namespace Go.Proofs.YtgikcbfdonjggaaGreatDoor.concGrams
open Go Go.J Go.ChangeShapes Go.WideShapes Go.ChangeAt Go.RowKit
open Go.ChangeMaps (open_string)
set_option linter.unusedVariables false
set_option linter.unusedSimpArgs false
set_option maxRecDepth 100000
theorem own : ownKnob Tryz.prog.godebug = none := by kernel_rfl
theorem laidOut : laidOutB Tryz.prog = true := by kernel_rfl
theorem cells3 : Tryz.prog.cellsOf 3 = 1 := by kernel_rfl
theorem cells9 : Tryz.prog.cellsOf 9 = 1 := by kernel_rfl
theorem cells23 : Tryz.prog.cellsOf 23 = 1 := by kernel_rfl
theorem bytes9 : Tryz.prog.bytesOf 9 = 16 := by kernel_rfl
theorem bytes23 : Tryz.prog.bytesOf 23 = 24 := by kernel_rfl
theorem plainMet (W : World) : laidMetH Tryz.prog Rows.concordGramsMatchesSpecRow.laid W = laidMet Tryz.prog Rows.concordGramsMatchesSpecRow.laid W := MakeChecks.laidMetH_plain _ _ _ (by kernel_rfl)
theorem accEq : Rows.laid_unicode_utf8_acceptRanges = Lib.acceptData := by kernel_rfl
theorem firstEq : Rows.laid_unicode_utf8_first = Lib.firstData := by kernel_rfl
theorem tabs {W : World} (h : laidMetH Tryz.prog Rows.concordGramsMatchesSpecRow.laid W) : U8Ok W :=
  utf8Tabs_of (by kernel_rfl) (by kernel_rfl) (by kernel_rfl) (by kernel_rfl) Tryz.underlying112 Tryz.underlying5 Tryz.underlying115 Tryz.underlying114 (fun i fd hi => by
    match i, hi with
    | 0, hi => simp at hi; subst hi; exact ⟨Tryz.underlying5, rfl, by kernel_rfl⟩
    | 1, hi => simp at hi; subst hi; exact ⟨Tryz.underlying5, rfl, by kernel_rfl⟩
    | i + 2, hi => simp at hi) rfl (by kernel_rfl) (by kernel_rfl) (by kernel_rfl) h (plainMet W) (by rw [← firstEq]; exact .tail _ (.head _)) (by rw [← accEq]; exact .head _)
theorem u8_at {W : World} (h : U8Ok W) : u8.f (J.all W) := fun w hw => utf8Tabs_ext h hw

theorem contract (H : Type) (enc : TypeId × Value → H) (W : World) (base : Nat) (args : Array Value) (ds gs : List (DataW H)) (before : List MemPlace)
    (hval : ∀ (j : Nat) t v, Tryz.f8.params[j]? = some t → args[j]? = some v → Value.okWide Tryz.prog W .any base t v)
    (hW : DataW.Whole enc Tryz.prog Tryz.f8.params.toList Rows.concordGramsMatchesSpecSpec.vars false W args.toList ds gs before)
    (hsz0 : (DataW.weightsEach Tryz.prog (Tryz.f8.params.toList ++ (OpenSpec.ofChange Rows.concordGramsMatchesSpecSpec).bare.plain.varTypes Tryz.prog) (ds ++ gs)).all (· ≤ reachBytes) = true) (hvars : U8Ok W) :
    Calls Tryz.prog 8 args W fun e W' => ∃ v, e = .returned v ∧ Rows.concordGramsMatchesSpecSpec.post enc Tryz.prog Tryz.f8 false true false false W args v W' := by
  have hW' := hW
  obtain ⟨p, q, hA0, hV, rfl, hfz, hnd⟩ := hW
  have hA : DataW.TrodAll enc Tryz.prog W 0 (fun _ => true) true Tryz.f8.params.toList args.toList ds p := hA0
  have hsz : (DataW.weightsEach Tryz.prog (Tryz.f8.params.toList ++ (OpenSpec.ofChange Rows.concordGramsMatchesSpecSpec).bare.plain.varTypes Tryz.prog) (ds ++ gs)).all (· ≤ reachBytes) = true := hsz0
  rw [Tryz.params8] at hA hval hsz
  obtain ⟨v0, v1, d0, d1, p0, p1, rfl, rfl, rfl, h0, h1⟩ := trodAll_two hA
  obtain ⟨rfl, rfl⟩ := trodVars_none hV
  clear hA0 hsz0
  simp only [List.append_nil] at hW'
  have hlt : ∀ x ∈ p0 ++ p1, x.block < W.heap.size := fun x hx => by simpa using hW'.lt x hx
  obtain ⟨a0, f0, g0⟩ := nsl_open strR Tryz.underlying22 cells23 Tryz.underlying23 cells9 (el_str Tryz.underlying9) (hval 0 22 v0 rfl rfl) (wok_each (j := 0) hsz rfl rfl) h0
  have z0 := sl_sized hsz 0 (xs := a0) rfl rfl Tryz.underlying22 g0 24 bytes23
  obtain ⟨a1, rfl⟩ := okWide_int Tryz.underlying3 (hval 1 3 v1 rfl rfl)
  have w1 : i64ok a1 := by
    obtain ⟨n, hn⟩ := h1
    obtain ⟨z, h0, _, w0⟩ := DataW.trod_int Tryz.underlying3 hn
    simp [Value.cells] at h0
    subst h0
    exact wf_i64 w0
  refine ((law6_spec v0 a0 a1).below (W := W) (fun d hd => ?_)).mono ?_
  · simp only [List.mem_cons, List.not_mem_nil, or_false] at hd
    rcases hd with rfl | rfl
    · exact f0
    · exact u8_at hvars
  · rintro e W' ⟨rfl, hb⟩
    have ha : ∀ {t v d p}, Tryz.prog.readableRec t = true → t < Tryz.prog.types.size → DataW.Trod enc Tryz.prog W 0 (fun _ => true) true t v d p → (∀ x ∈ p, x.block < W.heap.size) → DataW.Trod enc Tryz.prog W' 0 (fun b => decide (b < W.heap.size)) true t v d p :=
      fun hr ht h hl => Below.trod laidOut hr ht h hb hl
    refine ⟨_, rfl, _, _, _, [], _, [], hW', trodAll_mk1 (shut_bool Tryz.underlying4 _), trodAll_mk2 (ha (by kernel_rfl) (of_decide_eq_true (by kernel_rfl)) h0 fun x hx => hlt x (by simp [hx])) (ha (by kernel_rfl) (of_decide_eq_true (by kernel_rfl)) h1 fun x hx => hlt x (by simp [hx])), rfl, hb.frame _, fun h => by cases h⟩

theorem laid_met (os : Os) : laidMetH Tryz.prog Rows.concordGramsMatchesSpecRow.laid ((World.laidAll Tryz.prog os Rows.concordGramsMatchesSpecRow.laid).forCall (fun _ _ => 0) ⟨#[], #[.slice none 0 0, .int .i64 0], []⟩).memory := by
  rw [plainMet]; exact laidMet_laidAll _ (by kernel_rfl) (by kernel_rfl)
theorem reads (os : Os) {H : Type} (enc : TypeId × Value → H) : DataW.whole enc Tryz.prog ((World.laidAll Tryz.prog os Rows.concordGramsMatchesSpecRow.laid).forCall (fun _ _ => 0) ⟨#[], #[.slice none 0 0, .int .i64 0], []⟩).memory Tryz.f8.params.toList Rows.concordGramsMatchesSpecSpec.vars false #[.slice none 0 0, .int .i64 0].toList 8 = some ([.nil, .lit (.int .i64 0)], [], []) := by kernel_rfl
theorem lifted (os : Os) (started : os.Started) (H : Type) (enc : TypeId × Value → H) (F : Stop.Interp) :
    ReturnsInHanded {} Tryz.checked os 8 .any ((OpenSpec.ofChange Rows.concordGramsMatchesSpecSpec).preRow enc Tryz.prog Tryz.f8 Rows.concordGramsMatchesSpecRow.domain false Rows.concordGramsMatchesSpecRow.laid) (((OpenSpec.ofChange Rows.concordGramsMatchesSpecSpec).at F).post enc Tryz.prog Tryz.f8 false true false false) := by
  refine returnsInHanded_of_row (C := Tryz.checked) (s := (OpenSpec.ofChange Rows.concordGramsMatchesSpecSpec)) own started (by kernel_rfl) Tryz.func8
    ⟨World.laidAll Tryz.prog os Rows.concordGramsMatchesSpecRow.laid, fun _ _ => 0, ⟨#[], #[.slice none 0 0, .int .i64 0], []⟩, World.laidAll_os _ _ _, World.shaped_of_ZipB (by kernel_rfl) (by kernel_rfl), rfl,
      (Input.okWide_of_okWideB (P := Tryz.prog) (f := 8) (w := (World.laidAll Tryz.prog os Rows.concordGramsMatchesSpecRow.laid).forCall (fun _ _ => 0) ⟨#[], #[.slice none 0 0, .int .i64 0], []⟩) (i := ⟨#[], #[.slice none 0 0, .int .i64 0], []⟩) (by kernel_rfl)).2,
      OpenSpec.preRow_of_cond 8 (reads os enc) (by kernel_rfl) (fun k hk => by cases hk) (by kernel_rfl) (laid_met os), by
        simp only [Assume.holds]
        exact ⟨by simp, by simp, fun _ => Modest.zero, by simp, by simp⟩⟩ ?_
  intro W base args ds gs before hval hW _ hcond hsz hL _ _
  exact contract H enc W base args ds gs before hval hW  hsz (tabs hL)
theorem said : Rows.ConcordGramsMatchesSpecSaid :=
  OpenClaim.holds_of_cond 8 Tryz.f8 rfl rfl rfl rfl rfl rfl rfl ⟨rfl, rfl, rfl, rfl, rfl⟩ rfl rfl rfl rfl rfl (by kernel_rfl) Tryz.func8 (by kernel_rfl)
    (of_decide_eq_true (by kernel_rfl)) (by unfold Func.isWrapper; first | (rw [if_pos (by decide +kernel)]; kernel_rfl) | (rw [if_neg (by decide +kernel)]; exact ⟨rfl, rfl⟩))
    (fun os started H enc _ F => by rw [OpenClaim.pre_eq_preRow]; exact lifted os started H enc F)
theorem holds : Rows.ConcordGramsMatchesSpecCardSaid :=
  Claim7.holds_tied_plain_at .later [] [.data, .pinned] true (true, "332cb5fe69f325910ecab3e556c5957380ceca3c2cd7fa58bfd9fc80e2a2040b") false
    said (fun _ h => by cases h) (by kernel_rfl) (fun _ h => by cases h) concordGramsMatchesSpec_row_tie rfl ⟨rfl, rfl⟩ (by kernel_rfl) rfl
    (fun f fn hf hfn => by
      obtain rfl : f = 8 := Option.some.inj ((show Tryz.prog.funcNamed "glosswright/glosswrightlaw7.ConcordGramsMatchesSpec" = some 8 by kernel_rfl).symm.trans hf) |>.symm
      obtain rfl : fn = Tryz.f8 := (Option.some.inj (Tryz.func8.symm.trans hfn)).symm
      exact ⟨by kernel_rfl, fun j t ht => by
        rw [Tryz.params8] at ht
        have hm : t ∈ [22, 3] := by simpa using Array.mem_of_getElem? ht
        have hall : ([22, 3].all fun u => !Tryz.prog.wantsStandIn u) = true := by kernel_rfl
        exact (show Tryz.prog.wantsStandIn t = false by simpa using List.all_eq_true.1 hall t hm)⟩)
    (by kernel_rfl)
#print axioms holds
end Go.Proofs.YtgikcbfdonjggaaGreatDoor.concGrams
