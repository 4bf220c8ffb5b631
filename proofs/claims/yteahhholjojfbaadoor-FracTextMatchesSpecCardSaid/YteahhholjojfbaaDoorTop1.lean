/-
  The law FracTextMatchesSpec: for every input it returns true, and the input reads as it did; its card: the listed variables are tied to the program's text.
  Conditions: none.
-/
import Derived.Test.YteahhholjojfbaaDoorRows
import Derived.Test.YteahhholjojfbaaDoorTie
import Derived.Test.YteahhholjojfbaaDoorCards
import Derived.Test.YteahhholjojfbaaDoorJT
import Derived.Test.YteahhholjojfbaaDoorW10
import Derived.ProofKit
import Derived.LaidMore
import Derived.OpenShut
import Derived.Stop.Joined
import Derived.Stop.LaidErr
import Derived.Lib.LaidTab
import Derived.SevenTiedAt
namespace Go.Proofs.YteahhholjojfbaaDoor.fracText
open Go Go.J Go.ChangeShapes Go.WideShapes Go.ChangeAt Go.RowKit
open Go.ChangeMaps (open_string)
set_option linter.unusedVariables false
set_option linter.unusedSimpArgs false
set_option maxRecDepth 20000
theorem own : ownKnob Tryd.prog.godebug = none := by kernel_rfl
theorem laidOut : laidOutB Tryd.prog = true := by kernel_rfl
theorem cells3 : Tryd.prog.cellsOf 3 = 1 := by kernel_rfl
theorem cells23 : Tryd.prog.cellsOf 23 = 2 := by kernel_rfl
theorem cells9 : Tryd.prog.cellsOf 9 = 1 := by kernel_rfl
theorem cells94 : Tryd.prog.cellsOf 94 = 1 := by kernel_rfl
theorem cells96 : Tryd.prog.cellsOf 96 = 20 := by kernel_rfl
theorem cells39 : Tryd.prog.cellsOf 39 = 1 := by kernel_rfl
theorem gTab : Tryd.prog.globalNamed "internal/strconv.uint64pow10" = some 5 := by kernel_rfl
theorem gTabT : (Tryd.prog.globals[5]?).map (·.type) = some 96 := by kernel_rfl
theorem gRng : Tryd.prog.globalNamed "strconv.ErrRange" = some 4 := by kernel_rfl
theorem gRngT : (Tryd.prog.globals[4]?).map (·.type) = some 48 := by kernel_rfl
theorem gSyn : Tryd.prog.globalNamed "strconv.ErrSyntax" = some 3 := by kernel_rfl
theorem gSynT : (Tryd.prog.globals[3]?).map (·.type) = some 48 := by kernel_rfl
theorem star : "*" ++ "errors.errorString" = "*errors.errorString" := by decide
theorem row92 (u : TypeId) (h : Tryd.prog.typeName? 3 u = some "*errors.errorString") : u = 92 :=
  typeName_ptr_named (nm := "errors.errorString") (by rw [star]; kernel_rfl) (by kernel_rfl) (by decide) u (by rw [star]; exact h)
theorem tabEq {H : Type} : (Rows.laid_internal_strconv_uint64pow10 : DataW H) = Lib.tabData .u64 Lib.pow10Tab := by rfl
/-- what the row's condition and the world's shape give the walks -/
theorem varsOk {W : World} (hL : laidMetH Tryd.prog Rows.fracTextMatchesSpecRow.laid W) (hsh : W.ShapedOpen Tryd.prog) : VarsOk W := by
  rw [MakeChecks.laidMetH_plain _ _ _ (by kernel_rfl)] at hL
  have h3 := hL.tail.tail
  have h4 := h3.tail
  have h5 := h4.tail
  obtain ⟨a1, s1, hv1, _, _, _⟩ := laid_sentinel h4 gRng gRngT Tryd.underlying48 row92 Tryd.underlying92 Tryd.underlying94 rfl rfl Tryd.underlying9 cells94 cells9
  obtain ⟨a2, s2, hv2, _, _, _⟩ := laid_sentinel h5 gSyn gSynT Tryd.underlying48 row92 Tryd.underlying92 Tryd.underlying94 rfl rfl Tryd.underlying9 cells94 cells9
  have hT : laidMet Tryd.prog (("internal/strconv.uint64pow10", Lib.tabData .u64 Lib.pow10Tab) :: _) W := h3
  exact ⟨Lib.tabIs_of_head gTab gTabT Tryd.underlying96 Tryd.underlying39 cells39 cells96 hT, Tryd.laysM145.s1_3 W hsh, ⟨_, _, World.var?_cell gSyn hv2 0⟩, ⟨_, _, World.var?_cell gRng hv1 0⟩⟩
theorem cell_ext {W w : World} (h : ∀ (k : Nat) (o : Obj), W.heap[k]? = some o → w.heap[k]? = some o) {g : Nat} {v : Value} (hc : W.cell? ⟨g, 0, none⟩ = some v) : w.cell? ⟨g, 0, none⟩ = some v := by
  obtain ⟨_, C, e, fr, hb, hv⟩ := blk_of_cell hc
  rw [cell?_of_blk (h _ _ hb)]; exact hv
theorem vars_at {W : World} (hv : VarsOk W) : vars.f (J.all W) := by
  intro w hw
  have hw : ∀ (k : Nat) (o : Obj), W.heap[k]? = some o → w.heap[k]? = some o := hw
  obtain ⟨h1, ⟨m, h2⟩, ⟨t3, p3, h3⟩, ⟨t4, p4, h4⟩⟩ := hv
  refine ⟨?_, ⟨m, cell_ext hw h2⟩, ⟨t3, p3, cell_ext hw h3⟩, ⟨t4, p4, cell_ext hw h4⟩⟩
  unfold Lib.TabIs at h1 ⊢
  simp only [World.var?, gTab, Option.bind_some] at h1 ⊢
  split at h1
  · rename_i heq
    rw [hw _ _ heq]; exact h1
  · cases h1
theorem el_frac {H : Type} {enc : TypeId × Value → H} {W : World} (n : Nat) (cs : List Value) (y : DataW H × List MemPlace) (hl : cs.length = fracR.size) (h : DataW.trod enc Tryd.prog W 0 (fun _ => true) true n 23 cs = some y) : ∃ x : Pr, cs = fracR.cells x ∧ fracR.wf x := by
  obtain ⟨xs, k, _, _, _, hxl, hf⟩ := DataW.trod_struct Tryd.underlying23 h
  match cs, hl with
  | [c0, c1], _ =>
    have f0 := hf 0 _ rfl
    have f1 := hf 1 _ rfl
    simp [cells3] at f0 f1
    have l3 : xs.length = 2 := hxl
    match xs, l3 with
    | [y0, y1], _ =>
      obtain ⟨z, h0, _, w0⟩ := DataW.trod_int Tryd.underlying3 f0
      obtain ⟨s1, h1, _, w1⟩ := DataW.trod_int Tryd.underlying3 f1
      simp only [List.cons.injEq, and_true] at h0 h1
      subst h0 h1
      exact ⟨(z, s1), rfl, wf_i64 w0, wf_i64 w1⟩

theorem contract (H : Type) (enc : TypeId × Value → H) (W : World) (base : Nat) (args : Array Value) (ds gs : List (DataW H)) (before : List MemPlace)
    (hval : ∀ (j : Nat) t v, Tryd.f3.params[j]? = some t → args[j]? = some v → Value.okWide Tryd.prog W .any base t v)
    (hW : DataW.Whole enc Tryd.prog Tryd.f3.params.toList Rows.fracTextMatchesSpecSpec.vars false W args.toList ds gs before)
    (hvars : VarsOk W) :
    Calls Tryd.prog 3 args W fun e W' => ∃ v, e = .returned v ∧ Rows.fracTextMatchesSpecSpec.post enc Tryd.prog Tryd.f3 false true false false W args v W' := by
  have hW' := hW
  obtain ⟨p, q, hA0, hV, rfl, hfz, hnd⟩ := hW
  have hA : DataW.TrodAll enc Tryd.prog W 0 (fun _ => true) true Tryd.f3.params.toList args.toList ds p := hA0
  rw [Tryd.params3] at hA hval
  obtain ⟨v0, v1, d0, d1, p0, p1, rfl, rfl, rfl, h0, h1⟩ := trodAll_two hA
  obtain ⟨rfl, rfl⟩ := trodVars_none hV
  clear hA0
  simp only [List.append_nil] at hW'
  have hlt : ∀ x ∈ p0 ++ p1, x.block < W.heap.size := fun x hx => by simpa using hW'.lt x hx
  obtain ⟨c0, rfl, hc0⟩ := okWide_struct Tryd.underlying23 (hval 0 23 v0 rfl rfl)
  obtain ⟨n0, hn0⟩ := h0
  obtain ⟨a0, e0, w0⟩ := el_frac n0 _ _ (by rw [cells23] at hc0; simpa [Value.cells, fracR] using hc0) hn0
  have h0 : DataW.Trod enc Tryd.prog W 0 (fun _ => true) true 23 (.agg c0) d0 p0 := ⟨n0, hn0⟩
  obtain rfl : c0 = (fracR.cells a0).toArray := by rw [← e0]; simp [Value.cells]
  obtain ⟨s1, e1, _, _, ws1⟩ := open_string Tryd.underlying9 (hval 1 9 v1 rfl rfl) h1
  obtain rfl : v1 = sv s1.data.toList := e1.trans (sv_of s1)
  have w1 : s1.data.toList.length ≤ 9223372036854775807 := by
    have em : maxLen = 9223372036854775807 := by kernel_rfl
    have es : s1.data.toList.length = s1.size := Array.length_toList
    omega
  refine ((law1_spec a0 s1.data.toList w0 w1).below (W := W) (fun d hd => ?_)).mono ?_
  · obtain rfl := List.mem_singleton.1 hd
    exact vars_at hvars
  · rintro e W' ⟨rfl, hb⟩
    have ha : ∀ {t v d p}, Tryd.prog.readableRec t = true → t < Tryd.prog.types.size → DataW.Trod enc Tryd.prog W 0 (fun _ => true) true t v d p → (∀ x ∈ p, x.block < W.heap.size) → DataW.Trod enc Tryd.prog W' 0 (fun b => decide (b < W.heap.size)) true t v d p :=
      fun hr ht h hl => Below.trod laidOut hr ht h hb hl
    refine ⟨_, rfl, _, _, _, [], _, [], hW', trodAll_mk1 (shut_bool Tryd.underlying4 _), trodAll_mk2 (ha (by kernel_rfl) (of_decide_eq_true (by kernel_rfl)) h0 fun x hx => hlt x (by simp [hx])) (ha (by kernel_rfl) (of_decide_eq_true (by kernel_rfl)) h1 fun x hx => hlt x (by simp [hx])), rfl, hb.frame _, fun h => by cases h⟩

/-- The door's own heap meets the condition. -/
theorem door_met (os : Os) (args : Array Value) : laidMetH Tryd.prog Rows.fracTextMatchesSpecRow.laid ((World.doorLaid Tryd.prog 62 os).forCall (fun _ _ => 0) ⟨#[], args, []⟩).memory :=
  laidMetH_of_parts3 (fuel := 8) (laidMet_of_run' 8 (by kernel_rfl) (by kernel_rfl)) (by kernel_rfl) (by kernel_rfl)

set_option maxRecDepth 100000 in
theorem lifted (os : Os) (started : os.Started) (H : Type) (enc : TypeId × Value → H) :
    ReturnsInHanded {} Tryd.checked os 3 .any (fun w args => (Rows.fracTextMatchesSpecSpec.pre enc Tryd.prog Tryd.f3 [] false w args ∧ laidMetH Tryd.prog Rows.fracTextMatchesSpecRow.laid w) ∧ sizedMet enc Tryd.prog Tryd.f3 (OpenSpec.ofChange Rows.fracTextMatchesSpecSpec) false w args)
      (Rows.fracTextMatchesSpecSpec.post enc Tryd.prog Tryd.f3 false true false false) := by
  refine returnsInHanded_of_calls (C := Tryd.checked) own started (by kernel_rfl)
    (ChangeSpec.witness_shaped (enc := enc) (C := Tryd.checked) (os := os) (X := fun w _ => laidMetH Tryd.prog Rows.fracTextMatchesSpecRow.laid w) false (World.doorLaid Tryd.prog 62 os) #[.agg #[.int .i64 0, .int .i64 0], .string ⟨#[]⟩] 8 rfl (World.shaped_of_RefB (by kernel_rfl) (by kernel_rfl)) (by kernel_rfl) (by kernel_rfl) (by kernel_rfl) (door_met os _)) ?_
  intro w tape i _ hsh _ hok hpre hholds
  obtain ⟨_, _, _, fn', hfn', _, _, _, _, hval⟩ := hok
  obtain rfl : fn' = Tryd.f3 := Option.some.inj (hfn'.symm.trans Tryd.func3)
  obtain ⟨⟨⟨ds, gs, before, hw, hc⟩, hx⟩, hz⟩ := hpre
  have hw' := DataW.Whole.of_heap (w' := w.forCall tape i) (by rfl) hw
  have hx' : laidMetH Tryd.prog Rows.fracTextMatchesSpecRow.laid (w.forCall tape i) := hx.of_heap (by rfl)
  refine (contract H enc (w.forCall tape i) w.heap.size i.args ds gs before hval hw' (varsOk hx' hsh)).mono fun e W' ⟨v, he, hp⟩ => ?_
  subst he
  exact ChangeSpec.post_blind hp

theorem said : Rows.FracTextMatchesSpecSaid :=
  OpenClaim.holds_of_wide 3 Tryd.f3 rfl rfl rfl rfl rfl rfl rfl ⟨rfl, rfl, rfl, rfl, rfl⟩ rfl rfl rfl rfl rfl (by kernel_rfl) Tryd.func3 (by kernel_rfl)
    (of_decide_eq_true (by kernel_rfl)) (by unfold Func.isWrapper; first | (rw [if_pos (by decide +kernel)]; kernel_rfl) | (rw [if_neg (by decide +kernel)]; exact ⟨rfl, rfl⟩))
    (fun os started H enc _ => lifted os started H enc)
theorem holds : Rows.FracTextMatchesSpecCardSaid :=
  Claim7.holds_tied_plain_at .later [] [.data, .data, .data, .sentinel, .sentinel] true (true, "aad098853ccc11739159ffeef5db53d316af3c030ea05cda15a16501ea4be71e") true
    said (fun _ h => by cases h) (by kernel_rfl) (fun _ h => by cases h) fracTextMatchesSpec_row_tie rfl ⟨rfl, rfl⟩ (by kernel_rfl) rfl
    (fun f fn hf hfn => by
      obtain rfl : f = 3 := Option.some.inj ((show Tryd.prog.funcNamed "glosswright/glosswrightlaw7.FracTextMatchesSpec" = some 3 by kernel_rfl).symm.trans hf) |>.symm
      obtain rfl : fn = Tryd.f3 := (Option.some.inj (Tryd.func3.symm.trans hfn)).symm
      exact ⟨by kernel_rfl, fun j t ht => by
        rw [Tryd.params3] at ht
        have hm : t ∈ [23, 9] := by simpa using Array.mem_of_getElem? ht
        have hall : ([23, 9].all fun u => !Tryd.prog.wantsStandIn u) = true := by kernel_rfl
        exact (show Tryd.prog.wantsStandIn t = false by simpa using List.all_eq_true.1 hall t hm)⟩)
    (by kernel_rfl)
#print axioms holds
end Go.Proofs.YteahhholjojfbaaDoor.fracText
