/-
  Several texts in one: YtolmidffiegkaaaDoorQ6, YtolmidffiegkaaaDoorQ33, YtolmidffiegkaaaDoorMtcS, YtolmidffiegkaaaDoorJ35, YtolmidffiegkaaaDoorQ34, YtolmidffiegkaaaDoorQ36.
  Conditions: none.
-/
import Derived.Test.YtolmidffiegkaaaDoorGB6
import Derived.Test.YtolmidffiegkaaaDoorGB2
import Derived.Test.YtolmidffiegkaaaDoorGB5
import Derived.Test.YtolmidffiegkaaaDoorGB4
import Derived.Laws.IdiomStrings
/-
  (YtolmidffiegkaaaDoorQ6)
  The walk of the sample grammar.
  Conditions: none.
-/
set_option maxRecDepth 20000
set_option linter.unusedSimpArgs false
set_option linter.unusedVariables false
namespace Go.Proofs.YtolmidffiegkaaaDoor
open Go Go.J
def smNames : List Str := [[116, 111, 112], [114, 117, 108, 101], [115, 105, 103, 110], [110, 117, 109], [115, 105, 110, 103], [112, 108, 117, 114], [115], [110, 112], [118, 112], [110], [100, 101, 116], [105, 118], [116, 118], [97, 100, 118], [99, 111, 110, 106]]
def smPars : List Int := [0, 0, 0, 0, 3, 3, 2, 2, 2, 2, 2, 2, 2, 2, 2]
def smFeats : List FeatD := [⟨[109, 111, 116, 104, 101, 114], 1, 2⟩, ⟨[111, 110, 101], 1, 2⟩, ⟨[116, 119, 111], 1, 2⟩, ⟨[116, 104, 114, 101, 101], 1, 2⟩, ⟨[110, 117, 109], 2, 3⟩]
def smRules : List Ru0 := [⟨[115], (graph0 [[1, 0, 1, 1, 2, 2, 4], [6], [7, 4, 3], [3], [8, 4, 3]]), 2, 0, (abs0 (fn0 (fn0 (.mk [101] []) (.mk [116] [])) (.mk [116] [])) (abs0 (fn0 (.mk [101] []) (.mk [116] [])) (app0 (bd0 1) (bd0 0))))⟩, ⟨[110, 112], (graph0 [[1, 0, 1, 1, 3, 2, 4], [7, 4, 2], [3], [10, 4, 2], [9, 4, 2]]), 2, 1, (abs0 (fn0 (fn0 (.mk [101] []) (.mk [116] [])) (fn0 (fn0 (.mk [101] []) (.mk [116] [])) (.mk [116] []))) (abs0 (fn0 (.mk [101] []) (.mk [116] [])) (app0 (bd0 1) (bd0 0))))⟩, ⟨[118, 112, 45, 105, 118], (graph0 [[1, 0, 1, 1, 3], [8, 4, 2], [3], [11, 4, 2]]), 1, 0, (abs0 (fn0 (.mk [101] []) (.mk [116] [])) (bd0 0))⟩, ⟨[118, 112, 45, 116, 118], (graph0 [[1, 0, 1, 1, 3, 2, 4], [8, 4, 2], [3], [12, 4, 2], [7]]), 2, 2, (abs0 (fn0 (.mk [101] []) (fn0 (.mk [101] []) (.mk [116] []))) (abs0 (fn0 (fn0 (.mk [101] []) (.mk [116] [])) (.mk [116] [])) (abs0 (.mk [101] []) (app0 (bd0 1) (abs0 (.mk [101] []) (app0 (app0 (bd0 3) (bd0 1)) (bd0 0)))))))⟩, ⟨[118, 112, 45, 110, 111, 116], (graph0 [[1, 0, 1, 1, 3, 2, 4], [8, 4, 2], [3], [13], [8, 4, 2]]), 2, 3, (abs0 (fn0 (.mk [116] []) (.mk [116] [])) (abs0 (fn0 (.mk [101] []) (.mk [116] [])) (abs0 (.mk [101] []) (app0 (bd0 2) (app0 (bd0 1) (bd0 0))))))⟩, ⟨[110, 112, 45, 97, 110, 100], (graph0 [[1, 0, 1, 1, 3, 2, 4, 3, 5], [7, 4, 2], [5], [7], [14], [7]]), 3, 4, (abs0 (fn0 (fn0 (.mk [101] []) (.mk [116] [])) (.mk [116] [])) (abs0 (fn0 (.mk [116] []) (fn0 (.mk [116] []) (.mk [116] []))) (abs0 (fn0 (fn0 (.mk [101] []) (.mk [116] [])) (.mk [116] [])) (abs0 (fn0 (.mk [101] []) (.mk [116] [])) (app0 (app0 (bd0 2) (app0 (bd0 3) (bd0 0))) (app0 (bd0 1) (bd0 0)))))))⟩]
def smLexes : List Lx0 := [⟨[101, 118, 101, 114, 121], graph0 [[10, 4, 1], [4]], 1, (quant0 [97, 108, 108] [105, 102] false)⟩, ⟨[97], graph0 [[10, 4, 1], [4]], 0, (quant0 [115, 111, 109, 101] [97, 110, 100] false)⟩, ⟨[110, 111], graph0 [[10]], 2, (quant0 [115, 111, 109, 101] [97, 110, 100] true)⟩, ⟨[100, 111, 103], graph0 [[9, 4, 1], [4]], 0, (con0 [100, 111, 103] (fn0 (.mk [101] []) (.mk [116] [])))⟩, ⟨[100, 111, 103, 115], graph0 [[9, 4, 1], [5]], 0, (con0 [100, 111, 103] (fn0 (.mk [101] []) (.mk [116] [])))⟩, ⟨[99, 97, 116], graph0 [[9, 4, 1], [4]], 0, (con0 [99, 97, 116] (fn0 (.mk [101] []) (.mk [116] [])))⟩, ⟨[99, 97, 116, 115], graph0 [[9, 4, 1], [5]], 0, (con0 [99, 97, 116] (fn0 (.mk [101] []) (.mk [116] [])))⟩, ⟨[102, 105, 115, 104], graph0 [[9, 4, 1], [4]], 1, (con0 [102, 105, 115, 104] (fn0 (.mk [101] []) (.mk [116] [])))⟩, ⟨[102, 105, 115, 104], graph0 [[9, 4, 1], [5]], 2, (con0 [102, 105, 115, 104] (fn0 (.mk [101] []) (.mk [116] [])))⟩, ⟨[98, 97, 114, 107, 115], graph0 [[11, 4, 1], [4]], 0, (con0 [98, 97, 114, 107] (fn0 (.mk [101] []) (.mk [116] [])))⟩, ⟨[98, 97, 114, 107], graph0 [[11, 4, 1], [5]], 0, (con0 [98, 97, 114, 107] (fn0 (.mk [101] []) (.mk [116] [])))⟩, ⟨[115, 108, 101, 101, 112, 115], graph0 [[11, 4, 1], [4]], 0, (con0 [115, 108, 101, 101, 112] (fn0 (.mk [101] []) (.mk [116] [])))⟩, ⟨[115, 108, 101, 101, 112], graph0 [[11, 4, 1], [5]], 0, (con0 [115, 108, 101, 101, 112] (fn0 (.mk [101] []) (.mk [116] [])))⟩, ⟨[99, 104, 97, 115, 101, 115], graph0 [[12, 4, 1], [4]], 0, (con0 [99, 104, 97, 115, 101] (fn0 (.mk [101] []) (fn0 (.mk [101] []) (.mk [116] []))))⟩, ⟨[99, 104, 97, 115, 101], graph0 [[12, 4, 1], [5]], 0, (con0 [99, 104, 97, 115, 101] (fn0 (.mk [101] []) (fn0 (.mk [101] []) (.mk [116] []))))⟩, ⟨[115, 101, 101, 115], graph0 [[12, 4, 1], [4]], 1, (con0 [115, 101, 101] (fn0 (.mk [101] []) (fn0 (.mk [101] []) (.mk [116] []))))⟩, ⟨[115, 101, 101], graph0 [[12, 4, 1], [5]], 1, (con0 [115, 101, 101] (fn0 (.mk [101] []) (fn0 (.mk [101] []) (.mk [116] []))))⟩, ⟨[110, 111, 116], graph0 [[13]], 0, (con0 [110, 111, 116] (fn0 (.mk [116] []) (.mk [116] [])))⟩, ⟨[97, 110, 100], graph0 [[14]], 0, (con0 [97, 110, 100] (fn0 (.mk [116] []) (fn0 (.mk [116] []) (.mk [116] []))))⟩, ⟨[114, 101, 120], graph0 [[7, 4, 1], [4]], 0, (abs0 (fn0 (.mk [101] []) (.mk [116] [])) (app0 (bd0 0) (con0 [114, 101, 120] (.mk [101] []))))⟩, ⟨[109, 105, 97], graph0 [[7, 4, 1], [4]], 0, (abs0 (fn0 (.mk [101] []) (.mk [116] [])) (app0 (bd0 0) (con0 [109, 105, 97] (.mk [101] []))))⟩]
def smallE : Gm0 := ⟨hier0 smNames smPars 15, smFeats.map ftE, smRules, smLexes, graph0 [[6]]⟩
theorem wfI {l : List Int} (h : l.all (fun x => decide (-9223372036854775808 ≤ x) && decide (x ≤ 9223372036854775807)) = true) : ∀ x ∈ l, intR.wf x := fun x hx => by
 have := List.all_eq_true.1 h x hx
 simp only [Bool.and_eq_true, decide_eq_true_eq] at this
 exact this
theorem smNames_wf : ∀ x ∈ smNames, strR.wf x := fun x hx => by
 have h : smNames.all (fun x => decide (x.length ≤ 140737488351232)) = true := by decide
 show x.length ≤ 140737488351232
 exact of_decide_eq_true (List.all_eq_true.1 h x hx)
theorem smPars_wf : ∀ x ∈ smPars, intR.wf x := wfI (by decide)
theorem smFeats_wf : ∀ x ∈ smFeats, featR.wf x := fun x hx => by
 have h : smFeats.all (fun x => decide (x.name.length ≤ 140737488351232) && (decide (-9223372036854775808 ≤ x.of_) && decide (x.of_ ≤ 9223372036854775807)) && (decide (-9223372036854775808 ≤ x.value) && decide (x.value ≤ 9223372036854775807))) = true := by decide
 have := List.all_eq_true.1 h x hx
 simp only [Bool.and_eq_true, decide_eq_true_eq] at this
 exact ⟨this.1.1, this.1.2, this.2⟩
theorem six_of {α : Type} {l : List α} (h : l.length = 6) : ∃ a b c d e f, l = [a, b, c, d, e, f] := by
 match l, h with
 | [a, b, c, d, e, f], _ => exact ⟨a, b, c, d, e, f, rfl⟩
theorem nsl_of {n : Nat} {F : Fr} {c : Ctx} {H : List Ent} {T : Act → World → Prop} {α : Type} (Rr : Rp α) (v : Value) (vs : List OneV) (xss : List (List α)) (ds : List Dat) (hds : ds = (vs.zip xss).map (fun p => sl Rr p.1.1 p.2)) (hl : vs.length = xss.length) [h1 : InD (sl valR v vs) H] [h2 : InDs ds H]
  (k : St n F (Mm c (dat (nsl Rr v xss) :: H)) T) : St n F (Mm c H) T :=
 St.fact (nsl Rr v xss) (fun ρ w hm => ⟨vs, hl, dat_ok.1 (hm.ents _ h1.mem), fun i u x hu hx => by
  have hm2 : (u, x) ∈ vs.zip xss := List.mem_of_getElem? (i := i) (by rw [List.getElem?_zip_eq_some]; exact ⟨hu, hx⟩)
  exact dat_ok.1 (hm.ents _ (h2.mem _ (by rw [hds]; exact List.mem_map.2 ⟨(u, x), hm2, rfl⟩)))⟩) k
set_option maxHeartbeats 4000000 in
theorem Small_spec : FnH Tryd.prog 11 #[] ([].map dat) (fun v H' => H' = [dat (isGrm smallE v)]) := by
 refine FnH.body (args := []) 256 Tryd.func11 rfl Tryd.ntmps11 rfl (fun c => ?_)
 refine St.cast (H' := []) rfl ?_
 refine St.seq (St.rg ?_)
 refine St.alloc zc32 rfl (fun b0 => ?_)
 refine St.nil (St.then_normal (St.seq (St.rg ?_)))
 refine St.calld (base_spec [101] (by decide)) cb25 (.cons (.mk rfl) .nil) rfl ?_
 rintro v8 _ rfl
 refine St.app1 ?_
 refine St.isSim (.mk [101] []) v8 (fun xe hxe => ?_)
 obtain ⟨hxeV, hxeE, hxew⟩ := hxe
 subst hxeV
 refine St.calld (base_spec [116] (by decide)) cb25 (.cons (.mk rfl) .nil) rfl ?_
 rintro v9 _ rfl
 refine St.app1 ?_
 refine St.isSim (.mk [116] []) v9 (fun xt hxt => ?_)
 obtain ⟨hxtV, hxtE, hxtw⟩ := hxt
 subst hxtV
 refine St.alloc zc77 rfl (fun b1 => ?_)
 refine St.alloc zc77 rfl (fun b2 => ?_)
 refine St.storeA (Opd.mk rfl) (Opd.mk rfl) sz77 (by first | simp only [List.length_cons, List.length_nil] | rfl) (by simp only [List.all_cons, List.all_nil, Bool.and_true, Bool.and_eq_true]; exact ⟨rfl, xe.av.2⟩) ?_
 refine St.storeA (Opd.mk rfl) (Opd.mk rfl) sz77 (by first | simp only [List.length_cons, List.length_nil] | rfl) (by simp only [List.all_cons, List.all_nil, Bool.and_true, Bool.and_eq_true]; exact ⟨rfl, xt.av.2⟩) ?_
 refine St.nil (St.then_normal (St.seq (St.rg ?_)))
 refine St.ev _ (Ev.ldbA (.mk rfl) Tryd.underlying77 trivial (by exact sz77)) rfl ?_
 refine St.ev _ (Ev.ldbA (.mk rfl) Tryd.underlying77 trivial (by exact sz77)) rfl ?_
 refine St.calld (fun_spec (simV xe) (simV xt) (.mk [101] []) (.mk [116] [])) cb26 (.cons (.mk rfl) (.cons (.mk rfl) .nil)) rfl ?_
 rintro v12 _ rfl
 refine St.app1 ?_
 refine St.isSim (fn0 (.mk [101] []) (.mk [116] [])) v12 (fun xp hxp => ?_)
 obtain ⟨hxpV, hxpE, hxpw⟩ := hxp
 subst hxpV
 refine St.alloc zc77 rfl (fun b3 => ?_)
 refine St.storeA (Opd.mk rfl) (Opd.mk rfl) sz77 (by first | simp only [List.length_cons, List.length_nil] | rfl) (by simp only [List.all_cons, List.all_nil, Bool.and_true, Bool.and_eq_true]; exact ⟨rfl, xp.av.2⟩) ?_
 refine St.nil (St.then_normal (St.seq (St.rg ?_)))
 refine St.ev _ (Ev.ldbA (.mk rfl) Tryd.underlying77 trivial (by exact sz77)) rfl ?_
 refine St.ev _ (Ev.ldbA (.mk rfl) Tryd.underlying77 trivial (by exact sz77)) rfl ?_
 refine St.calld (fun_spec (simV xe) (simV xp) (.mk [101] []) (fn0 (.mk [101] []) (.mk [116] []))) cb26 (.cons (.mk rfl) (.cons (.mk rfl) .nil)) rfl ?_
 rintro v15 _ rfl
 refine St.app1 ?_
 refine St.isSim (fn0 (.mk [101] []) (fn0 (.mk [101] []) (.mk [116] []))) v15 (fun xr hxr => ?_)
 obtain ⟨hxrV, hxrE, hxrw⟩ := hxr
 subst hxrV
 refine St.alloc zc77 rfl (fun b4 => ?_)
 refine St.storeA (Opd.mk rfl) (Opd.mk rfl) sz77 (by first | simp only [List.length_cons, List.length_nil] | rfl) (by simp only [List.all_cons, List.all_nil, Bool.and_true, Bool.and_eq_true]; exact ⟨rfl, xr.av.2⟩) ?_
 refine St.nil (St.then_normal (St.seq (St.rg ?_)))
 refine St.alloc zc32 rfl (fun b5 => ?_)
 refine St.nil (St.then_normal (St.seq (St.rg ?_)))
 refine St.bsl rfl (.cons (.mk rfl) (.cons (.mk rfl) (.cons (.mk rfl) (.cons (.mk rfl) (.cons (.mk rfl) (.cons (.mk rfl) (.cons (.mk rfl) (.cons (.mk rfl) (.cons (.mk rfl) (.cons (.mk rfl) (.cons (.mk rfl) (.cons (.mk rfl) (.cons (.mk rfl) (.cons (.mk rfl) (.cons (.mk rfl) .nil))))))))))))))) Tryd.underlying54 sz9 zv9 rfl rfl (by simp [Value.cells]) rfl rfl (fun b16 => ?_)
 refine St.publish (.slice (some ⟨b16, 0, none⟩) 15 15) strR smNames rfl rfl smNames_wf ?_
 refine St.toSl (Rr := strR) (xs := smNames) (.slice (some ⟨b16, 0, none⟩) 15 15) rfl ?_
 refine St.bsl rfl (.cons (.mk rfl) (.cons (.mk rfl) (.cons (.mk rfl) (.cons (.mk rfl) (.cons (.mk rfl) (.cons (.mk rfl) (.cons (.mk rfl) (.cons (.mk rfl) (.cons (.mk rfl) (.cons (.mk rfl) (.cons (.mk rfl) (.cons (.mk rfl) (.cons (.mk rfl) (.cons (.mk rfl) (.cons (.mk rfl) .nil))))))))))))))) Tryd.underlying57 sz3 zv3 rfl rfl (by simp [Value.cells]) rfl rfl (fun b17 => ?_)
 refine St.publish (.slice (some ⟨b17, 0, none⟩) 15 15) intR smPars rfl rfl smPars_wf ?_
 refine St.toSl (Rr := intR) (xs := smPars) (.slice (some ⟨b17, 0, none⟩) 15 15) rfl ?_
 refine St.ev _ (Ev.build (ps := [(0, (.const (.string ⟨#[109, 111, 116, 104, 101, 114]⟩))), (1, (.const (.int .i64 1))), (2, (.const (.int .i64 2)))]) (Opds.cons (Opd.mk rfl) (Opds.cons (Opd.mk rfl) (Opds.cons (Opd.mk rfl) Opds.nil))) (fun w => bld87_0_1_2 rfl rfl rfl w)) rfl ?_
 refine St.ev _ (Ev.build (ps := [(0, (.const (.string ⟨#[111, 110, 101]⟩))), (1, (.const (.int .i64 1))), (2, (.const (.int .i64 2)))]) (Opds.cons (Opd.mk rfl) (Opds.cons (Opd.mk rfl) (Opds.cons (Opd.mk rfl) Opds.nil))) (fun w => bld87_0_1_2 rfl rfl rfl w)) rfl ?_
 refine St.ev _ (Ev.build (ps := [(0, (.const (.string ⟨#[116, 119, 111]⟩))), (1, (.const (.int .i64 1))), (2, (.const (.int .i64 2)))]) (Opds.cons (Opd.mk rfl) (Opds.cons (Opd.mk rfl) (Opds.cons (Opd.mk rfl) Opds.nil))) (fun w => bld87_0_1_2 rfl rfl rfl w)) rfl ?_
 refine St.ev _ (Ev.build (ps := [(0, (.const (.string ⟨#[116, 104, 114, 101, 101]⟩))), (1, (.const (.int .i64 1))), (2, (.const (.int .i64 2)))]) (Opds.cons (Opd.mk rfl) (Opds.cons (Opd.mk rfl) (Opds.cons (Opd.mk rfl) Opds.nil))) (fun w => bld87_0_1_2 rfl rfl rfl w)) rfl ?_
 refine St.ev _ (Ev.build (ps := [(0, (.const (.string ⟨#[110, 117, 109]⟩))), (1, (.const (.int .i64 2))), (2, (.const (.int .i64 3)))]) (Opds.cons (Opd.mk rfl) (Opds.cons (Opd.mk rfl) (Opds.cons (Opd.mk rfl) Opds.nil))) (fun w => bld87_0_1_2 rfl rfl rfl w)) rfl ?_
 refine St.bsl rfl (.cons (.mk rfl) (.cons (.mk rfl) (.cons (.mk rfl) (.cons (.mk rfl) (.cons (.mk rfl) .nil))))) Tryd.underlying23 sz87 zv87 rfl rfl (by simp [Value.cells]) rfl rfl (fun b23 => ?_)
 refine St.publish (.slice (some ⟨b23, 0, none⟩) 5 5) featR smFeats rfl rfl smFeats_wf ?_
 refine St.calld (hierarchyOf_spec (.slice (some ⟨b16, 0, none⟩) 15 15) (.slice (some ⟨b17, 0, none⟩) 15 15) (.slice (some ⟨b23, 0, none⟩) 5 5) smNames smPars rfl rfl (by decide)) cb27 (.cons (.mk rfl) (.cons (.mk rfl) (.cons (.mk rfl) .nil))) rfl ?_
 rintro v24 _ ⟨tv, ts, rfl, hts, rfl⟩
 refine St.app2 ?_
 refine St.ev _ (Ev.fldb0 (.mk rfl) fo32_0) rfl ?_
 refine St.storeAt2 (L' := [tv.1, (.slice (some ⟨b23, 0, none⟩) 5 5), (.slice none 0 0), (.slice none 0 0), (.slice none 0 0)]) (Opd.mk rfl) (Opd.mk rfl) sz25 tv.2 rfl rfl rfl ?_
 refine St.nil (St.then_normal (St.seq (St.rg ?_)))
 refine St.calld meanings_spec cb28 (.cons (.mk rfl) .nil) rfl ?_
 rintro v26 _ rfl
 refine St.app1 ?_
 refine St.isTerms meansE v26 (fun ms hms => ?_)
 obtain ⟨h26, hmsE⟩ := hms
 obtain ⟨m0, m1, m2, m3, m4, m5, rfl⟩ := six_of (show ms.length = 6 by have := congrArg List.length hmsE; rw [List.length_map] at this; exact this)
 refine St.wf v26 (fun hmw _ => ?_)
 simp only [meansE, List.map_cons, List.map_nil, List.cons.injEq, and_true] at hmsE
 obtain ⟨hm0, hm1, hm2, hm3, hm4, hm5⟩ := hmsE
 refine St.dallAt termD [m0, m1, m2, m3, m4, m5] (x := m0) (by simp) ?_
 refine St.dallAt termD [m0, m1, m2, m3, m4, m5] (x := m1) (by simp) ?_
 refine St.dallAt termD [m0, m1, m2, m3, m4, m5] (x := m2) (by simp) ?_
 refine St.dallAt termD [m0, m1, m2, m3, m4, m5] (x := m3) (by simp) ?_
 refine St.dallAt termD [m0, m1, m2, m3, m4, m5] (x := m4) (by simp) ?_
 refine St.dallAt termD [m0, m1, m2, m3, m4, m5] (x := m5) (by simp) ?_
 have hmw0 := hmw m0 (by simp)
 have hmw1 := hmw m1 (by simp)
 have hmw2 := hmw m2 (by simp)
 have hmw3 := hmw m3 (by simp)
 have hmw4 := hmw m4 (by simp)
 have hmw5 := hmw m5 (by simp)
 refine St.asg ?_
 refine St.nil (St.then_normal (St.seq ?_))
 refine St.bag 67 27 [] (⟨27, [], fun u => eqD u v26⟩::⟨28, [0], fun u => eqD u (eptr v26 termR.size 0 0)⟩::⟨29, [1], fun u => eqD u (termV m0)⟩::⟨30, [], fun u => isSl intR [1, 0, 1, 1, 2, 2, 4] u⟩::⟨31, [], fun u => isSl intR [6] u⟩::⟨32, [], fun u => isSl intR [7, 4, 3] u⟩::⟨33, [], fun u => isSl intR [3] u⟩::⟨34, [], fun u => isSl intR [8, 4, 3] u⟩::⟨35, [3, 4, 5, 6, 7], fun u => isNsl intR [[1, 0, 1, 1, 2, 2, 4], [6], [7, 4, 3], [3], [8, 4, 3]] u⟩::⟨36, [8], fun u => isGraph (graph0 [[1, 0, 1, 1, 2, 2, 4], [6], [7, 4, 3], [3], [8, 4, 3]]) u⟩::⟨37, [2, 9], fun u => isRule ⟨[115], (graph0 [[1, 0, 1, 1, 2, 2, 4], [6], [7, 4, 3], [3], [8, 4, 3]]), 2, 0, (abs0 (fn0 (fn0 (.mk [101] []) (.mk [116] [])) (.mk [116] [])) (abs0 (fn0 (.mk [101] []) (.mk [116] [])) (app0 (bd0 1) (bd0 0))))⟩ u⟩::⟨38, [], fun u => eqD u v26⟩::⟨39, [11], fun u => eqD u (eptr v26 termR.size 1 0)⟩::⟨40, [12], fun u => eqD u (termV m1)⟩::⟨41, [], fun u => isSl intR [1, 0, 1, 1, 3, 2, 4] u⟩::⟨42, [], fun u => isSl intR [7, 4, 2] u⟩::⟨43, [], fun u => isSl intR [3] u⟩::⟨44, [], fun u => isSl intR [10, 4, 2] u⟩::⟨45, [], fun u => isSl intR [9, 4, 2] u⟩::⟨46, [14, 15, 16, 17, 18], fun u => isNsl intR [[1, 0, 1, 1, 3, 2, 4], [7, 4, 2], [3], [10, 4, 2], [9, 4, 2]] u⟩::⟨47, [19], fun u => isGraph (graph0 [[1, 0, 1, 1, 3, 2, 4], [7, 4, 2], [3], [10, 4, 2], [9, 4, 2]]) u⟩::⟨48, [13, 20], fun u => isRule ⟨[110, 112], (graph0 [[1, 0, 1, 1, 3, 2, 4], [7, 4, 2], [3], [10, 4, 2], [9, 4, 2]]), 2, 1, (abs0 (fn0 (fn0 (.mk [101] []) (.mk [116] [])) (fn0 (fn0 (.mk [101] []) (.mk [116] [])) (.mk [116] []))) (abs0 (fn0 (.mk [101] []) (.mk [116] [])) (app0 (bd0 1) (bd0 0))))⟩ u⟩::⟨49, [], fun u => eqD u v26⟩::⟨50, [22], fun u => eqD u (eptr v26 termR.size 2 0)⟩::⟨51, [23], fun u => eqD u (termV m2)⟩::⟨52, [], fun u => isSl intR [1, 0, 1, 1, 3] u⟩::⟨53, [], fun u => isSl intR [8, 4, 2] u⟩::⟨54, [], fun u => isSl intR [3] u⟩::⟨55, [], fun u => isSl intR [11, 4, 2] u⟩::⟨56, [25, 26, 27, 28], fun u => isNsl intR [[1, 0, 1, 1, 3], [8, 4, 2], [3], [11, 4, 2]] u⟩::⟨57, [29], fun u => isGraph (graph0 [[1, 0, 1, 1, 3], [8, 4, 2], [3], [11, 4, 2]]) u⟩::⟨58, [24, 30], fun u => isRule ⟨[118, 112, 45, 105, 118], (graph0 [[1, 0, 1, 1, 3], [8, 4, 2], [3], [11, 4, 2]]), 1, 0, (abs0 (fn0 (.mk [101] []) (.mk [116] [])) (bd0 0))⟩ u⟩::⟨59, [], fun u => eqD u v26⟩::⟨60, [32], fun u => eqD u (eptr v26 termR.size 3 0)⟩::⟨61, [33], fun u => eqD u (termV m3)⟩::⟨62, [], fun u => isSl intR [1, 0, 1, 1, 3, 2, 4] u⟩::⟨63, [], fun u => isSl intR [8, 4, 2] u⟩::⟨64, [], fun u => isSl intR [3] u⟩::⟨65, [], fun u => isSl intR [12, 4, 2] u⟩::⟨66, [], fun u => isSl intR [7] u⟩::⟨67, [35, 36, 37, 38, 39], fun u => isNsl intR [[1, 0, 1, 1, 3, 2, 4], [8, 4, 2], [3], [12, 4, 2], [7]] u⟩::⟨68, [40], fun u => isGraph (graph0 [[1, 0, 1, 1, 3, 2, 4], [8, 4, 2], [3], [12, 4, 2], [7]]) u⟩::⟨69, [34, 41], fun u => isRule ⟨[118, 112, 45, 116, 118], (graph0 [[1, 0, 1, 1, 3, 2, 4], [8, 4, 2], [3], [12, 4, 2], [7]]), 2, 2, (abs0 (fn0 (.mk [101] []) (fn0 (.mk [101] []) (.mk [116] []))) (abs0 (fn0 (fn0 (.mk [101] []) (.mk [116] [])) (.mk [116] [])) (abs0 (.mk [101] []) (app0 (bd0 1) (abs0 (.mk [101] []) (app0 (app0 (bd0 3) (bd0 1)) (bd0 0)))))))⟩ u⟩::⟨70, [], fun u => eqD u v26⟩::⟨71, [43], fun u => eqD u (eptr v26 termR.size 4 0)⟩::⟨72, [44], fun u => eqD u (termV m4)⟩::⟨73, [], fun u => isSl intR [1, 0, 1, 1, 3, 2, 4] u⟩::⟨74, [], fun u => isSl intR [8, 4, 2] u⟩::⟨75, [], fun u => isSl intR [3] u⟩::⟨76, [], fun u => isSl intR [13] u⟩::⟨77, [], fun u => isSl intR [8, 4, 2] u⟩::⟨78, [46, 47, 48, 49, 50], fun u => isNsl intR [[1, 0, 1, 1, 3, 2, 4], [8, 4, 2], [3], [13], [8, 4, 2]] u⟩::⟨79, [51], fun u => isGraph (graph0 [[1, 0, 1, 1, 3, 2, 4], [8, 4, 2], [3], [13], [8, 4, 2]]) u⟩::⟨80, [45, 52], fun u => isRule ⟨[118, 112, 45, 110, 111, 116], (graph0 [[1, 0, 1, 1, 3, 2, 4], [8, 4, 2], [3], [13], [8, 4, 2]]), 2, 3, (abs0 (fn0 (.mk [116] []) (.mk [116] [])) (abs0 (fn0 (.mk [101] []) (.mk [116] [])) (abs0 (.mk [101] []) (app0 (bd0 2) (app0 (bd0 1) (bd0 0))))))⟩ u⟩::⟨81, [], fun u => eqD u v26⟩::⟨82, [54], fun u => eqD u (eptr v26 termR.size 5 0)⟩::⟨83, [55], fun u => eqD u (termV m5)⟩::⟨84, [], fun u => isSl intR [1, 0, 1, 1, 3, 2, 4, 3, 5] u⟩::⟨85, [], fun u => isSl intR [7, 4, 2] u⟩::⟨86, [], fun u => isSl intR [5] u⟩::⟨87, [], fun u => isSl intR [7] u⟩::⟨88, [], fun u => isSl intR [14] u⟩::⟨89, [], fun u => isSl intR [7] u⟩::⟨90, [57, 58, 59, 60, 61, 62], fun u => isNsl intR [[1, 0, 1, 1, 3, 2, 4, 3, 5], [7, 4, 2], [5], [7], [14], [7]] u⟩::⟨91, [63], fun u => isGraph (graph0 [[1, 0, 1, 1, 3, 2, 4, 3, 5], [7, 4, 2], [5], [7], [14], [7]]) u⟩::⟨92, [56, 64], fun u => isRule ⟨[110, 112, 45, 97, 110, 100], (graph0 [[1, 0, 1, 1, 3, 2, 4, 3, 5], [7, 4, 2], [5], [7], [14], [7]]), 3, 4, (abs0 (fn0 (fn0 (.mk [101] []) (.mk [116] [])) (.mk [116] [])) (abs0 (fn0 (.mk [116] []) (fn0 (.mk [116] []) (.mk [116] []))) (abs0 (fn0 (fn0 (.mk [101] []) (.mk [116] [])) (.mk [116] [])) (abs0 (fn0 (.mk [101] []) (.mk [116] [])) (app0 (app0 (bd0 2) (app0 (bd0 3) (bd0 0))) (app0 (bd0 1) (bd0 0)))))))⟩ u⟩::⟨93, [10, 21, 31, 42, 53, 65], fun u => isRules smRules u⟩::[]) ((27, [])::(28, [0])::(29, [1])::(30, [])::(31, [])::(32, [])::(33, [])::(34, [])::(35, [3, 4, 5, 6, 7])::(36, [8])::(37, [2, 9])::(38, [])::(39, [11])::(40, [12])::(41, [])::(42, [])::(43, [])::(44, [])::(45, [])::(46, [14, 15, 16, 17, 18])::(47, [19])::(48, [13, 20])::(49, [])::(50, [22])::(51, [23])::(52, [])::(53, [])::(54, [])::(55, [])::(56, [25, 26, 27, 28])::(57, [29])::(58, [24, 30])::(59, [])::(60, [32])::(61, [33])::(62, [])::(63, [])::(64, [])::(65, [])::(66, [])::(67, [35, 36, 37, 38, 39])::(68, [40])::(69, [34, 41])::(70, [])::(71, [43])::(72, [44])::(73, [])::(74, [])::(75, [])::(76, [])::(77, [])::(78, [46, 47, 48, 49, 50])::(79, [51])::(80, [45, 52])::(81, [])::(82, [54])::(83, [55])::(84, [])::(85, [])::(86, [])::(87, [])::(88, [])::(89, [])::(90, [57, 58, 59, 60, 61, 62])::(91, [63])::(92, [56, 64])::(93, [10, 21, 31, 42, 53, 65])::[]) [66] rfl rfl mixed (by kernel_rfl) (by kernel_rfl) (by rfl) (fun e => [(93, e 66)]) (fun e => [dat (isRules smRules (e 66))]) (fun _ => rfl) (fun _ => rfl) ?_ (fun e => ?_)
 ·skip
  refine Hops.cons (Hop.mk (fun e => []) (fun e => []) (fun _ => rfl) (fun _ => rfl) (fun c e hdr2 => ?_)) ?_
  ·skip
   refine St.app0 ?_
   refine St.mv ?_
   refine St.fact (eqD v26 v26) (fun _ _ _ => rfl) ?_
   refine St.nil (St.then_normal ?_)
   exact St.bagged _ rfl _ rfl
  refine Hops.cons (Hop.mk (fun e => [(27, e 0)]) (fun e => [dat (eqD (e 0) v26)]) (fun _ => rfl) (fun _ => rfl) (fun c e hdr2 => ?_)) ?_
  ·skip
   refine St.app1 ?_
   refine St.eqSlot (P := Tryd.prog) 27 (e 0) v26 rfl ?_
   refine St.ev _ (Ev.idxaddr (k := 0) (.mk rfl) (.mk rfl) Tryd.underlying78 sz80 (by omega) (by simp)) rfl ?_
   refine St.fact (eqD (eptr v26 termR.size 0 0) (eptr v26 termR.size 0 0)) (fun _ _ _ => rfl) ?_
   refine St.nil (St.then_normal ?_)
   exact St.bagged _ rfl _ rfl
  refine Hops.cons (Hop.mk (fun e => [(28, e 1)]) (fun e => [dat (eqD (e 1) (eptr v26 termR.size 0 0))]) (fun _ => rfl) (fun _ => rfl) (fun c e hdr2 => ?_)) ?_
  ·skip
   refine St.app1 ?_
   refine St.eqSlot (P := Tryd.prog) 28 (e 1) (eptr v26 termR.size 0 0) rfl ?_
   refine St.ev _ (Ev.ldA (.mk rfl) (show [m0, m1, m2, m3, m4, m5][0]? = some m0 from rfl) Tryd.underlying80 trivial sz80 Cel.eq) rfl ?_
   refine St.fact (eqD (termV m0) (termV m0)) (fun _ _ _ => rfl) ?_
   refine St.nil (St.then_normal ?_)
   exact St.bagged _ rfl _ rfl
  refine Hops.cons (Hop.mk (fun e => []) (fun e => []) (fun _ => rfl) (fun _ => rfl) (fun c e hdr2 => ?_)) ?_
  ·skip
   refine St.app0 ?_
   refine St.bsl rfl (.cons (.mk rfl) (.cons (.mk rfl) (.cons (.mk rfl) (.cons (.mk rfl) (.cons (.mk rfl) (.cons (.mk rfl) (.cons (.mk rfl) .nil))))))) Tryd.underlying57 sz3 zv3 rfl rfl (by simp [Value.cells]) rfl rfl (fun b30 => ?_)
   refine St.publish (.slice (some ⟨b30, 0, none⟩) 7 7) intR [1, 0, 1, 1, 2, 2, 4] rfl rfl (wfI (by decide)) ?_
   refine St.toSl (Rr := intR) (xs := [1, 0, 1, 1, 2, 2, 4]) (.slice (some ⟨b30, 0, none⟩) 7 7) rfl ?_
   refine St.nil (St.then_normal ?_)
   exact St.bagged _ rfl _ rfl
  refine Hops.cons (Hop.mk (fun e => []) (fun e => []) (fun _ => rfl) (fun _ => rfl) (fun c e hdr2 => ?_)) ?_
  ·skip
   refine St.app0 ?_
   refine St.bsl rfl (.cons (.mk rfl) .nil) Tryd.underlying57 sz3 zv3 rfl rfl (by simp [Value.cells]) rfl rfl (fun b31 => ?_)
   refine St.publish (.slice (some ⟨b31, 0, none⟩) 1 1) intR [6] rfl rfl (wfI (by decide)) ?_
   refine St.toSl (Rr := intR) (xs := [6]) (.slice (some ⟨b31, 0, none⟩) 1 1) rfl ?_
   refine St.nil (St.then_normal ?_)
   exact St.bagged _ rfl _ rfl
  refine Hops.cons (Hop.mk (fun e => []) (fun e => []) (fun _ => rfl) (fun _ => rfl) (fun c e hdr2 => ?_)) ?_
  ·skip
   refine St.app0 ?_
   refine St.bsl rfl (.cons (.mk rfl) (.cons (.mk rfl) (.cons (.mk rfl) .nil))) Tryd.underlying57 sz3 zv3 rfl rfl (by simp [Value.cells]) rfl rfl (fun b32 => ?_)
   refine St.publish (.slice (some ⟨b32, 0, none⟩) 3 3) intR [7, 4, 3] rfl rfl (wfI (by decide)) ?_
   refine St.toSl (Rr := intR) (xs := [7, 4, 3]) (.slice (some ⟨b32, 0, none⟩) 3 3) rfl ?_
   refine St.nil (St.then_normal ?_)
   exact St.bagged _ rfl _ rfl
  refine Hops.cons (Hop.mk (fun e => []) (fun e => []) (fun _ => rfl) (fun _ => rfl) (fun c e hdr2 => ?_)) ?_
  ·skip
   refine St.app0 ?_
   refine St.bsl rfl (.cons (.mk rfl) .nil) Tryd.underlying57 sz3 zv3 rfl rfl (by simp [Value.cells]) rfl rfl (fun b33 => ?_)
   refine St.publish (.slice (some ⟨b33, 0, none⟩) 1 1) intR [3] rfl rfl (wfI (by decide)) ?_
   refine St.toSl (Rr := intR) (xs := [3]) (.slice (some ⟨b33, 0, none⟩) 1 1) rfl ?_
   refine St.nil (St.then_normal ?_)
   exact St.bagged _ rfl _ rfl
  refine Hops.cons (Hop.mk (fun e => []) (fun e => []) (fun _ => rfl) (fun _ => rfl) (fun c e hdr2 => ?_)) ?_
  ·skip
   refine St.app0 ?_
   refine St.bsl rfl (.cons (.mk rfl) (.cons (.mk rfl) (.cons (.mk rfl) .nil))) Tryd.underlying57 sz3 zv3 rfl rfl (by simp [Value.cells]) rfl rfl (fun b34 => ?_)
   refine St.publish (.slice (some ⟨b34, 0, none⟩) 3 3) intR [8, 4, 3] rfl rfl (wfI (by decide)) ?_
   refine St.toSl (Rr := intR) (xs := [8, 4, 3]) (.slice (some ⟨b34, 0, none⟩) 3 3) rfl ?_
   refine St.nil (St.then_normal ?_)
   exact St.bagged _ rfl _ rfl
  refine Hops.cons (Hop.mk (fun e => [(30, e 3), (31, e 4), (32, e 5), (33, e 6), (34, e 7)]) (fun e => [dat (isSl intR [1, 0, 1, 1, 2, 2, 4] (e 3)), dat (isSl intR [6] (e 4)), dat (isSl intR [7, 4, 3] (e 5)), dat (isSl intR [3] (e 6)), dat (isSl intR [8, 4, 3] (e 7))]) (fun _ => rfl) (fun _ => rfl) (fun c e hdr2 => ?_)) ?_
  ·skip
   refine St.app5 ?_
   refine St.isSl intR [1, 0, 1, 1, 2, 2, 4] (e 3) (fun h30 => ?_)
   refine St.isSl intR [6] (e 4) (fun h31 => ?_)
   refine St.isSl intR [7, 4, 3] (e 5) (fun h32 => ?_)
   refine St.isSl intR [3] (e 6) (fun h33 => ?_)
   refine St.isSl intR [8, 4, 3] (e 7) (fun h34 => ?_)
   refine St.bsl rfl (.cons (.mk rfl) (.cons (.mk rfl) (.cons (.mk rfl) (.cons (.mk rfl) (.cons (.mk rfl) .nil))))) Tryd.underlying40 sz57 zv57 rfl rfl (by simp [J.cells_one h30, J.cells_one h31, J.cells_one h32, J.cells_one h33, J.cells_one h34]) rfl rfl (fun b35 => ?_)
   refine St.publish (.slice (some ⟨b35, 0, none⟩) 5 5) valR [⟨e 3, h30⟩, ⟨e 4, h31⟩, ⟨e 5, h32⟩, ⟨e 6, h33⟩, ⟨e 7, h34⟩] (show _ = rows valR [⟨e 3, h30⟩, ⟨e 4, h31⟩, ⟨e 5, h32⟩, ⟨e 6, h33⟩, ⟨e 7, h34⟩] by simp only [List.flatMap_cons, List.flatMap_nil, J.cells_one h30, J.cells_one h31, J.cells_one h32, J.cells_one h33, J.cells_one h34]; rfl) rfl (fun _ _ => trivial) ?_
   refine nsl_of intR (.slice (some ⟨b35, 0, none⟩) 5 5) [⟨e 3, h30⟩, ⟨e 4, h31⟩, ⟨e 5, h32⟩, ⟨e 6, h33⟩, ⟨e 7, h34⟩] [[1, 0, 1, 1, 2, 2, 4], [6], [7, 4, 3], [3], [8, 4, 3]] [sl intR (e 3) [1, 0, 1, 1, 2, 2, 4], sl intR (e 4) [6], sl intR (e 5) [7, 4, 3], sl intR (e 6) [3], sl intR (e 7) [8, 4, 3]] rfl rfl ?_
   refine St.toNsl (Rr := intR) (xs := [[1, 0, 1, 1, 2, 2, 4], [6], [7, 4, 3], [3], [8, 4, 3]]) (.slice (some ⟨b35, 0, none⟩) 5 5) rfl ?_
   refine St.nil (St.then_normal ?_)
   exact St.bagged _ rfl _ rfl
  refine Hops.cons (Hop.mk (fun e => [(35, e 8)]) (fun e => [dat (isNsl intR [[1, 0, 1, 1, 2, 2, 4], [6], [7, 4, 3], [3], [8, 4, 3]] (e 8))]) (fun _ => rfl) (fun _ => rfl) (fun c e hdr2 => ?_)) ?_
  ·skip
   refine St.app1 ?_
   refine St.calld (graphOf_spec (e 8) [[1, 0, 1, 1, 2, 2, 4], [6], [7, 4, 3], [3], [8, 4, 3]] (by decide) (by decide)) cb29 (.cons (.mk rfl) .nil) rfl ?_
   rintro v36 _ rfl
   refine St.app1 ?_
   refine St.nil (St.then_normal ?_)
   exact St.bagged _ rfl _ rfl
  refine Hops.cons (Hop.mk (fun e => [(29, e 2), (36, e 9)]) (fun e => [dat (eqD (e 2) (termV m0)), dat (isGraph (graph0 [[1, 0, 1, 1, 2, 2, 4], [6], [7, 4, 3], [3], [8, 4, 3]]) (e 9))]) (fun _ => rfl) (fun _ => rfl) (fun c e hdr2 => ?_)) ?_
  ·skip
   refine St.app2 ?_
   refine St.eqSlot (P := Tryd.prog) 29 (e 2) (termV m0) rfl ?_
   refine St.isGraph (graph0 [[1, 0, 1, 1, 2, 2, 4], [6], [7, 4, 3], [3], [8, 4, 3]]) (e 9) (fun y hy => ?_)
   obtain ⟨hyV, hyE⟩ := hy
   rw [hyV]
   refine St.ev _ (Ev.build (ps := [(0, (.const (.string ⟨#[115]⟩))), (2, (.const (.int .i64 2))), (4, (.tmp 29)), (1, (.tmp 36))]) (Opds.cons (Opd.mk rfl) (Opds.cons (Opd.mk rfl) (Opds.cons (Opd.mk rfl) (Opds.cons (Opd.mk rfl) Opds.nil)))) (fun w => bld91_0_2_4_1 rfl rfl w)) rfl ?_
   refine St.mkD (isRule ⟨[115], (graph0 [[1, 0, 1, 1, 2, 2, 4], [6], [7, 4, 3], [3], [8, 4, 3]]), 2, 0, (abs0 (fn0 (fn0 (.mk [101] []) (.mk [116] [])) (.mk [116] [])) (abs0 (fn0 (.mk [101] []) (.mk [116] [])) (app0 (bd0 1) (bd0 0))))⟩ (ruleV (⟨[115], y, 2, 0, m0⟩ : RuleD))) [graphD y, termD m0] (fun ρ h => ⟨(⟨[115], y, 2, 0, m0⟩ : RuleD), rfl, by show (⟨_, grE y, _, _, termE m0⟩ : Ru0) = _; rw [hyE, hm0], ⟨(show slen [115] by decide), (show i64ok 2 by unfold i64ok; decide), (show i64ok 0 by unfold i64ok; decide), hmw0⟩, h⟩) ?_
   refine St.nil (St.then_normal ?_)
   exact St.bagged _ rfl _ rfl
  refine Hops.cons (Hop.mk (fun e => []) (fun e => []) (fun _ => rfl) (fun _ => rfl) (fun c e hdr2 => ?_)) ?_
  ·skip
   refine St.app0 ?_
   refine St.mv ?_
   refine St.fact (eqD v26 v26) (fun _ _ _ => rfl) ?_
   refine St.nil (St.then_normal ?_)
   exact St.bagged _ rfl _ rfl
  refine Hops.cons (Hop.mk (fun e => [(38, e 11)]) (fun e => [dat (eqD (e 11) v26)]) (fun _ => rfl) (fun _ => rfl) (fun c e hdr2 => ?_)) ?_
  ·skip
   refine St.app1 ?_
   refine St.eqSlot (P := Tryd.prog) 38 (e 11) v26 rfl ?_
   refine St.ev _ (Ev.idxaddr (k := 1) (.mk rfl) (.mk rfl) Tryd.underlying78 sz80 (by omega) (by simp)) rfl ?_
   refine St.fact (eqD (eptr v26 termR.size 1 0) (eptr v26 termR.size 1 0)) (fun _ _ _ => rfl) ?_
   refine St.nil (St.then_normal ?_)
   exact St.bagged _ rfl _ rfl
  refine Hops.cons (Hop.mk (fun e => [(39, e 12)]) (fun e => [dat (eqD (e 12) (eptr v26 termR.size 1 0))]) (fun _ => rfl) (fun _ => rfl) (fun c e hdr2 => ?_)) ?_
  ·skip
   refine St.app1 ?_
   refine St.eqSlot (P := Tryd.prog) 39 (e 12) (eptr v26 termR.size 1 0) rfl ?_
   refine St.ev _ (Ev.ldA (.mk rfl) (show [m0, m1, m2, m3, m4, m5][1]? = some m1 from rfl) Tryd.underlying80 trivial sz80 Cel.eq) rfl ?_
   refine St.fact (eqD (termV m1) (termV m1)) (fun _ _ _ => rfl) ?_
   refine St.nil (St.then_normal ?_)
   exact St.bagged _ rfl _ rfl
  refine Hops.cons (Hop.mk (fun e => []) (fun e => []) (fun _ => rfl) (fun _ => rfl) (fun c e hdr2 => ?_)) ?_
  ·skip
   refine St.app0 ?_
   refine St.bsl rfl (.cons (.mk rfl) (.cons (.mk rfl) (.cons (.mk rfl) (.cons (.mk rfl) (.cons (.mk rfl) (.cons (.mk rfl) (.cons (.mk rfl) .nil))))))) Tryd.underlying57 sz3 zv3 rfl rfl (by simp [Value.cells]) rfl rfl (fun b41 => ?_)
   refine St.publish (.slice (some ⟨b41, 0, none⟩) 7 7) intR [1, 0, 1, 1, 3, 2, 4] rfl rfl (wfI (by decide)) ?_
   refine St.toSl (Rr := intR) (xs := [1, 0, 1, 1, 3, 2, 4]) (.slice (some ⟨b41, 0, none⟩) 7 7) rfl ?_
   refine St.nil (St.then_normal ?_)
   exact St.bagged _ rfl _ rfl
  refine Hops.cons (Hop.mk (fun e => []) (fun e => []) (fun _ => rfl) (fun _ => rfl) (fun c e hdr2 => ?_)) ?_
  ·skip
   refine St.app0 ?_
   refine St.bsl rfl (.cons (.mk rfl) (.cons (.mk rfl) (.cons (.mk rfl) .nil))) Tryd.underlying57 sz3 zv3 rfl rfl (by simp [Value.cells]) rfl rfl (fun b42 => ?_)
   refine St.publish (.slice (some ⟨b42, 0, none⟩) 3 3) intR [7, 4, 2] rfl rfl (wfI (by decide)) ?_
   refine St.toSl (Rr := intR) (xs := [7, 4, 2]) (.slice (some ⟨b42, 0, none⟩) 3 3) rfl ?_
   refine St.nil (St.then_normal ?_)
   exact St.bagged _ rfl _ rfl
  refine Hops.cons (Hop.mk (fun e => []) (fun e => []) (fun _ => rfl) (fun _ => rfl) (fun c e hdr2 => ?_)) ?_
  ·skip
   refine St.app0 ?_
   refine St.bsl rfl (.cons (.mk rfl) .nil) Tryd.underlying57 sz3 zv3 rfl rfl (by simp [Value.cells]) rfl rfl (fun b43 => ?_)
   refine St.publish (.slice (some ⟨b43, 0, none⟩) 1 1) intR [3] rfl rfl (wfI (by decide)) ?_
   refine St.toSl (Rr := intR) (xs := [3]) (.slice (some ⟨b43, 0, none⟩) 1 1) rfl ?_
   refine St.nil (St.then_normal ?_)
   exact St.bagged _ rfl _ rfl
  refine Hops.cons (Hop.mk (fun e => []) (fun e => []) (fun _ => rfl) (fun _ => rfl) (fun c e hdr2 => ?_)) ?_
  ·skip
   refine St.app0 ?_
   refine St.bsl rfl (.cons (.mk rfl) (.cons (.mk rfl) (.cons (.mk rfl) .nil))) Tryd.underlying57 sz3 zv3 rfl rfl (by simp [Value.cells]) rfl rfl (fun b44 => ?_)
   refine St.publish (.slice (some ⟨b44, 0, none⟩) 3 3) intR [10, 4, 2] rfl rfl (wfI (by decide)) ?_
   refine St.toSl (Rr := intR) (xs := [10, 4, 2]) (.slice (some ⟨b44, 0, none⟩) 3 3) rfl ?_
   refine St.nil (St.then_normal ?_)
   exact St.bagged _ rfl _ rfl
  refine Hops.cons (Hop.mk (fun e => []) (fun e => []) (fun _ => rfl) (fun _ => rfl) (fun c e hdr2 => ?_)) ?_
  ·skip
   refine St.app0 ?_
   refine St.bsl rfl (.cons (.mk rfl) (.cons (.mk rfl) (.cons (.mk rfl) .nil))) Tryd.underlying57 sz3 zv3 rfl rfl (by simp [Value.cells]) rfl rfl (fun b45 => ?_)
   refine St.publish (.slice (some ⟨b45, 0, none⟩) 3 3) intR [9, 4, 2] rfl rfl (wfI (by decide)) ?_
   refine St.toSl (Rr := intR) (xs := [9, 4, 2]) (.slice (some ⟨b45, 0, none⟩) 3 3) rfl ?_
   refine St.nil (St.then_normal ?_)
   exact St.bagged _ rfl _ rfl
  refine Hops.cons (Hop.mk (fun e => [(41, e 14), (42, e 15), (43, e 16), (44, e 17), (45, e 18)]) (fun e => [dat (isSl intR [1, 0, 1, 1, 3, 2, 4] (e 14)), dat (isSl intR [7, 4, 2] (e 15)), dat (isSl intR [3] (e 16)), dat (isSl intR [10, 4, 2] (e 17)), dat (isSl intR [9, 4, 2] (e 18))]) (fun _ => rfl) (fun _ => rfl) (fun c e hdr2 => ?_)) ?_
  ·skip
   refine St.app5 ?_
   refine St.isSl intR [1, 0, 1, 1, 3, 2, 4] (e 14) (fun h41 => ?_)
   refine St.isSl intR [7, 4, 2] (e 15) (fun h42 => ?_)
   refine St.isSl intR [3] (e 16) (fun h43 => ?_)
   refine St.isSl intR [10, 4, 2] (e 17) (fun h44 => ?_)
   refine St.isSl intR [9, 4, 2] (e 18) (fun h45 => ?_)
   refine St.bsl rfl (.cons (.mk rfl) (.cons (.mk rfl) (.cons (.mk rfl) (.cons (.mk rfl) (.cons (.mk rfl) .nil))))) Tryd.underlying40 sz57 zv57 rfl rfl (by simp [J.cells_one h41, J.cells_one h42, J.cells_one h43, J.cells_one h44, J.cells_one h45]) rfl rfl (fun b46 => ?_)
   refine St.publish (.slice (some ⟨b46, 0, none⟩) 5 5) valR [⟨e 14, h41⟩, ⟨e 15, h42⟩, ⟨e 16, h43⟩, ⟨e 17, h44⟩, ⟨e 18, h45⟩] (show _ = rows valR [⟨e 14, h41⟩, ⟨e 15, h42⟩, ⟨e 16, h43⟩, ⟨e 17, h44⟩, ⟨e 18, h45⟩] by simp only [List.flatMap_cons, List.flatMap_nil, J.cells_one h41, J.cells_one h42, J.cells_one h43, J.cells_one h44, J.cells_one h45]; rfl) rfl (fun _ _ => trivial) ?_
   refine nsl_of intR (.slice (some ⟨b46, 0, none⟩) 5 5) [⟨e 14, h41⟩, ⟨e 15, h42⟩, ⟨e 16, h43⟩, ⟨e 17, h44⟩, ⟨e 18, h45⟩] [[1, 0, 1, 1, 3, 2, 4], [7, 4, 2], [3], [10, 4, 2], [9, 4, 2]] [sl intR (e 14) [1, 0, 1, 1, 3, 2, 4], sl intR (e 15) [7, 4, 2], sl intR (e 16) [3], sl intR (e 17) [10, 4, 2], sl intR (e 18) [9, 4, 2]] rfl rfl ?_
   refine St.toNsl (Rr := intR) (xs := [[1, 0, 1, 1, 3, 2, 4], [7, 4, 2], [3], [10, 4, 2], [9, 4, 2]]) (.slice (some ⟨b46, 0, none⟩) 5 5) rfl ?_
   refine St.nil (St.then_normal ?_)
   exact St.bagged _ rfl _ rfl
  refine Hops.cons (Hop.mk (fun e => [(46, e 19)]) (fun e => [dat (isNsl intR [[1, 0, 1, 1, 3, 2, 4], [7, 4, 2], [3], [10, 4, 2], [9, 4, 2]] (e 19))]) (fun _ => rfl) (fun _ => rfl) (fun c e hdr2 => ?_)) ?_
  ·skip
   refine St.app1 ?_
   refine St.calld (graphOf_spec (e 19) [[1, 0, 1, 1, 3, 2, 4], [7, 4, 2], [3], [10, 4, 2], [9, 4, 2]] (by decide) (by decide)) cb29 (.cons (.mk rfl) .nil) rfl ?_
   rintro v47 _ rfl
   refine St.app1 ?_
   refine St.nil (St.then_normal ?_)
   exact St.bagged _ rfl _ rfl
  refine Hops.cons (Hop.mk (fun e => [(40, e 13), (47, e 20)]) (fun e => [dat (eqD (e 13) (termV m1)), dat (isGraph (graph0 [[1, 0, 1, 1, 3, 2, 4], [7, 4, 2], [3], [10, 4, 2], [9, 4, 2]]) (e 20))]) (fun _ => rfl) (fun _ => rfl) (fun c e hdr2 => ?_)) ?_
  ·skip
   refine St.app2 ?_
   refine St.eqSlot (P := Tryd.prog) 40 (e 13) (termV m1) rfl ?_
   refine St.isGraph (graph0 [[1, 0, 1, 1, 3, 2, 4], [7, 4, 2], [3], [10, 4, 2], [9, 4, 2]]) (e 20) (fun y hy => ?_)
   obtain ⟨hyV, hyE⟩ := hy
   rw [hyV]
   refine St.ev _ (Ev.build (ps := [(0, (.const (.string ⟨#[110, 112]⟩))), (2, (.const (.int .i64 2))), (3, (.const (.int .i64 1))), (4, (.tmp 40)), (1, (.tmp 47))]) (Opds.cons (Opd.mk rfl) (Opds.cons (Opd.mk rfl) (Opds.cons (Opd.mk rfl) (Opds.cons (Opd.mk rfl) (Opds.cons (Opd.mk rfl) Opds.nil))))) (fun w => bld91_0_2_3_4_1 rfl rfl rfl w)) rfl ?_
   refine St.mkD (isRule ⟨[110, 112], (graph0 [[1, 0, 1, 1, 3, 2, 4], [7, 4, 2], [3], [10, 4, 2], [9, 4, 2]]), 2, 1, (abs0 (fn0 (fn0 (.mk [101] []) (.mk [116] [])) (fn0 (fn0 (.mk [101] []) (.mk [116] [])) (.mk [116] []))) (abs0 (fn0 (.mk [101] []) (.mk [116] [])) (app0 (bd0 1) (bd0 0))))⟩ (ruleV (⟨[110, 112], y, 2, 1, m1⟩ : RuleD))) [graphD y, termD m1] (fun ρ h => ⟨(⟨[110, 112], y, 2, 1, m1⟩ : RuleD), rfl, by show (⟨_, grE y, _, _, termE m1⟩ : Ru0) = _; rw [hyE, hm1], ⟨(show slen [110, 112] by decide), (show i64ok 2 by unfold i64ok; decide), (show i64ok 1 by unfold i64ok; decide), hmw1⟩, h⟩) ?_
   refine St.nil (St.then_normal ?_)
   exact St.bagged _ rfl _ rfl
  refine Hops.cons (Hop.mk (fun e => []) (fun e => []) (fun _ => rfl) (fun _ => rfl) (fun c e hdr2 => ?_)) ?_
  ·skip
   refine St.app0 ?_
   refine St.mv ?_
   refine St.fact (eqD v26 v26) (fun _ _ _ => rfl) ?_
   refine St.nil (St.then_normal ?_)
   exact St.bagged _ rfl _ rfl
  refine Hops.cons (Hop.mk (fun e => [(49, e 22)]) (fun e => [dat (eqD (e 22) v26)]) (fun _ => rfl) (fun _ => rfl) (fun c e hdr2 => ?_)) ?_
  ·skip
   refine St.app1 ?_
   refine St.eqSlot (P := Tryd.prog) 49 (e 22) v26 rfl ?_
   refine St.ev _ (Ev.idxaddr (k := 2) (.mk rfl) (.mk rfl) Tryd.underlying78 sz80 (by omega) (by simp)) rfl ?_
   refine St.fact (eqD (eptr v26 termR.size 2 0) (eptr v26 termR.size 2 0)) (fun _ _ _ => rfl) ?_
   refine St.nil (St.then_normal ?_)
   exact St.bagged _ rfl _ rfl
  refine Hops.cons (Hop.mk (fun e => [(50, e 23)]) (fun e => [dat (eqD (e 23) (eptr v26 termR.size 2 0))]) (fun _ => rfl) (fun _ => rfl) (fun c e hdr2 => ?_)) ?_
  ·skip
   refine St.app1 ?_
   refine St.eqSlot (P := Tryd.prog) 50 (e 23) (eptr v26 termR.size 2 0) rfl ?_
   refine St.ev _ (Ev.ldA (.mk rfl) (show [m0, m1, m2, m3, m4, m5][2]? = some m2 from rfl) Tryd.underlying80 trivial sz80 Cel.eq) rfl ?_
   refine St.fact (eqD (termV m2) (termV m2)) (fun _ _ _ => rfl) ?_
   refine St.nil (St.then_normal ?_)
   exact St.bagged _ rfl _ rfl
  refine Hops.cons (Hop.mk (fun e => []) (fun e => []) (fun _ => rfl) (fun _ => rfl) (fun c e hdr2 => ?_)) ?_
  ·skip
   refine St.app0 ?_
   refine St.bsl rfl (.cons (.mk rfl) (.cons (.mk rfl) (.cons (.mk rfl) (.cons (.mk rfl) (.cons (.mk rfl) .nil))))) Tryd.underlying57 sz3 zv3 rfl rfl (by simp [Value.cells]) rfl rfl (fun b52 => ?_)
   refine St.publish (.slice (some ⟨b52, 0, none⟩) 5 5) intR [1, 0, 1, 1, 3] rfl rfl (wfI (by decide)) ?_
   refine St.toSl (Rr := intR) (xs := [1, 0, 1, 1, 3]) (.slice (some ⟨b52, 0, none⟩) 5 5) rfl ?_
   refine St.nil (St.then_normal ?_)
   exact St.bagged _ rfl _ rfl
  refine Hops.cons (Hop.mk (fun e => []) (fun e => []) (fun _ => rfl) (fun _ => rfl) (fun c e hdr2 => ?_)) ?_
  ·skip
   refine St.app0 ?_
   refine St.bsl rfl (.cons (.mk rfl) (.cons (.mk rfl) (.cons (.mk rfl) .nil))) Tryd.underlying57 sz3 zv3 rfl rfl (by simp [Value.cells]) rfl rfl (fun b53 => ?_)
   refine St.publish (.slice (some ⟨b53, 0, none⟩) 3 3) intR [8, 4, 2] rfl rfl (wfI (by decide)) ?_
   refine St.toSl (Rr := intR) (xs := [8, 4, 2]) (.slice (some ⟨b53, 0, none⟩) 3 3) rfl ?_
   refine St.nil (St.then_normal ?_)
   exact St.bagged _ rfl _ rfl
  refine Hops.cons (Hop.mk (fun e => []) (fun e => []) (fun _ => rfl) (fun _ => rfl) (fun c e hdr2 => ?_)) ?_
  ·skip
   refine St.app0 ?_
   refine St.bsl rfl (.cons (.mk rfl) .nil) Tryd.underlying57 sz3 zv3 rfl rfl (by simp [Value.cells]) rfl rfl (fun b54 => ?_)
   refine St.publish (.slice (some ⟨b54, 0, none⟩) 1 1) intR [3] rfl rfl (wfI (by decide)) ?_
   refine St.toSl (Rr := intR) (xs := [3]) (.slice (some ⟨b54, 0, none⟩) 1 1) rfl ?_
   refine St.nil (St.then_normal ?_)
   exact St.bagged _ rfl _ rfl
  refine Hops.cons (Hop.mk (fun e => []) (fun e => []) (fun _ => rfl) (fun _ => rfl) (fun c e hdr2 => ?_)) ?_
  ·skip
   refine St.app0 ?_
   refine St.bsl rfl (.cons (.mk rfl) (.cons (.mk rfl) (.cons (.mk rfl) .nil))) Tryd.underlying57 sz3 zv3 rfl rfl (by simp [Value.cells]) rfl rfl (fun b55 => ?_)
   refine St.publish (.slice (some ⟨b55, 0, none⟩) 3 3) intR [11, 4, 2] rfl rfl (wfI (by decide)) ?_
   refine St.toSl (Rr := intR) (xs := [11, 4, 2]) (.slice (some ⟨b55, 0, none⟩) 3 3) rfl ?_
   refine St.nil (St.then_normal ?_)
   exact St.bagged _ rfl _ rfl
  refine Hops.cons (Hop.mk (fun e => [(52, e 25), (53, e 26), (54, e 27), (55, e 28)]) (fun e => [dat (isSl intR [1, 0, 1, 1, 3] (e 25)), dat (isSl intR [8, 4, 2] (e 26)), dat (isSl intR [3] (e 27)), dat (isSl intR [11, 4, 2] (e 28))]) (fun _ => rfl) (fun _ => rfl) (fun c e hdr2 => ?_)) ?_
  ·skip
   refine St.app4 ?_
   refine St.isSl intR [1, 0, 1, 1, 3] (e 25) (fun h52 => ?_)
   refine St.isSl intR [8, 4, 2] (e 26) (fun h53 => ?_)
   refine St.isSl intR [3] (e 27) (fun h54 => ?_)
   refine St.isSl intR [11, 4, 2] (e 28) (fun h55 => ?_)
   refine St.bsl rfl (.cons (.mk rfl) (.cons (.mk rfl) (.cons (.mk rfl) (.cons (.mk rfl) .nil)))) Tryd.underlying40 sz57 zv57 rfl rfl (by simp [J.cells_one h52, J.cells_one h53, J.cells_one h54, J.cells_one h55]) rfl rfl (fun b56 => ?_)
   refine St.publish (.slice (some ⟨b56, 0, none⟩) 4 4) valR [⟨e 25, h52⟩, ⟨e 26, h53⟩, ⟨e 27, h54⟩, ⟨e 28, h55⟩] (show _ = rows valR [⟨e 25, h52⟩, ⟨e 26, h53⟩, ⟨e 27, h54⟩, ⟨e 28, h55⟩] by simp only [List.flatMap_cons, List.flatMap_nil, J.cells_one h52, J.cells_one h53, J.cells_one h54, J.cells_one h55]; rfl) rfl (fun _ _ => trivial) ?_
   refine nsl_of intR (.slice (some ⟨b56, 0, none⟩) 4 4) [⟨e 25, h52⟩, ⟨e 26, h53⟩, ⟨e 27, h54⟩, ⟨e 28, h55⟩] [[1, 0, 1, 1, 3], [8, 4, 2], [3], [11, 4, 2]] [sl intR (e 25) [1, 0, 1, 1, 3], sl intR (e 26) [8, 4, 2], sl intR (e 27) [3], sl intR (e 28) [11, 4, 2]] rfl rfl ?_
   refine St.toNsl (Rr := intR) (xs := [[1, 0, 1, 1, 3], [8, 4, 2], [3], [11, 4, 2]]) (.slice (some ⟨b56, 0, none⟩) 4 4) rfl ?_
   refine St.nil (St.then_normal ?_)
   exact St.bagged _ rfl _ rfl
  refine Hops.cons (Hop.mk (fun e => [(56, e 29)]) (fun e => [dat (isNsl intR [[1, 0, 1, 1, 3], [8, 4, 2], [3], [11, 4, 2]] (e 29))]) (fun _ => rfl) (fun _ => rfl) (fun c e hdr2 => ?_)) ?_
  ·skip
   refine St.app1 ?_
   refine St.calld (graphOf_spec (e 29) [[1, 0, 1, 1, 3], [8, 4, 2], [3], [11, 4, 2]] (by decide) (by decide)) cb29 (.cons (.mk rfl) .nil) rfl ?_
   rintro v57 _ rfl
   refine St.app1 ?_
   refine St.nil (St.then_normal ?_)
   exact St.bagged _ rfl _ rfl
  refine Hops.cons (Hop.mk (fun e => [(51, e 24), (57, e 30)]) (fun e => [dat (eqD (e 24) (termV m2)), dat (isGraph (graph0 [[1, 0, 1, 1, 3], [8, 4, 2], [3], [11, 4, 2]]) (e 30))]) (fun _ => rfl) (fun _ => rfl) (fun c e hdr2 => ?_)) ?_
  ·skip
   refine St.app2 ?_
   refine St.eqSlot (P := Tryd.prog) 51 (e 24) (termV m2) rfl ?_
   refine St.isGraph (graph0 [[1, 0, 1, 1, 3], [8, 4, 2], [3], [11, 4, 2]]) (e 30) (fun y hy => ?_)
   obtain ⟨hyV, hyE⟩ := hy
   rw [hyV]
   refine St.ev _ (Ev.build (ps := [(0, (.const (.string ⟨#[118, 112, 45, 105, 118]⟩))), (2, (.const (.int .i64 1))), (4, (.tmp 51)), (1, (.tmp 57))]) (Opds.cons (Opd.mk rfl) (Opds.cons (Opd.mk rfl) (Opds.cons (Opd.mk rfl) (Opds.cons (Opd.mk rfl) Opds.nil)))) (fun w => bld91_0_2_4_1 rfl rfl w)) rfl ?_
   refine St.mkD (isRule ⟨[118, 112, 45, 105, 118], (graph0 [[1, 0, 1, 1, 3], [8, 4, 2], [3], [11, 4, 2]]), 1, 0, (abs0 (fn0 (.mk [101] []) (.mk [116] [])) (bd0 0))⟩ (ruleV (⟨[118, 112, 45, 105, 118], y, 1, 0, m2⟩ : RuleD))) [graphD y, termD m2] (fun ρ h => ⟨(⟨[118, 112, 45, 105, 118], y, 1, 0, m2⟩ : RuleD), rfl, by show (⟨_, grE y, _, _, termE m2⟩ : Ru0) = _; rw [hyE, hm2], ⟨(show slen [118, 112, 45, 105, 118] by decide), (show i64ok 1 by unfold i64ok; decide), (show i64ok 0 by unfold i64ok; decide), hmw2⟩, h⟩) ?_
   refine St.nil (St.then_normal ?_)
   exact St.bagged _ rfl _ rfl
  refine Hops.cons (Hop.mk (fun e => []) (fun e => []) (fun _ => rfl) (fun _ => rfl) (fun c e hdr2 => ?_)) ?_
  ·skip
   refine St.app0 ?_
   refine St.mv ?_
   refine St.fact (eqD v26 v26) (fun _ _ _ => rfl) ?_
   refine St.nil (St.then_normal ?_)
   exact St.bagged _ rfl _ rfl
  refine Hops.cons (Hop.mk (fun e => [(59, e 32)]) (fun e => [dat (eqD (e 32) v26)]) (fun _ => rfl) (fun _ => rfl) (fun c e hdr2 => ?_)) ?_
  ·skip
   refine St.app1 ?_
   refine St.eqSlot (P := Tryd.prog) 59 (e 32) v26 rfl ?_
   refine St.ev _ (Ev.idxaddr (k := 3) (.mk rfl) (.mk rfl) Tryd.underlying78 sz80 (by omega) (by simp)) rfl ?_
   refine St.fact (eqD (eptr v26 termR.size 3 0) (eptr v26 termR.size 3 0)) (fun _ _ _ => rfl) ?_
   refine St.nil (St.then_normal ?_)
   exact St.bagged _ rfl _ rfl
  refine Hops.cons (Hop.mk (fun e => [(60, e 33)]) (fun e => [dat (eqD (e 33) (eptr v26 termR.size 3 0))]) (fun _ => rfl) (fun _ => rfl) (fun c e hdr2 => ?_)) ?_
  ·skip
   refine St.app1 ?_
   refine St.eqSlot (P := Tryd.prog) 60 (e 33) (eptr v26 termR.size 3 0) rfl ?_
   refine St.ev _ (Ev.ldA (.mk rfl) (show [m0, m1, m2, m3, m4, m5][3]? = some m3 from rfl) Tryd.underlying80 trivial sz80 Cel.eq) rfl ?_
   refine St.fact (eqD (termV m3) (termV m3)) (fun _ _ _ => rfl) ?_
   refine St.nil (St.then_normal ?_)
   exact St.bagged _ rfl _ rfl
  refine Hops.cons (Hop.mk (fun e => []) (fun e => []) (fun _ => rfl) (fun _ => rfl) (fun c e hdr2 => ?_)) ?_
  ·skip
   refine St.app0 ?_
   refine St.bsl rfl (.cons (.mk rfl) (.cons (.mk rfl) (.cons (.mk rfl) (.cons (.mk rfl) (.cons (.mk rfl) (.cons (.mk rfl) (.cons (.mk rfl) .nil))))))) Tryd.underlying57 sz3 zv3 rfl rfl (by simp [Value.cells]) rfl rfl (fun b62 => ?_)
   refine St.publish (.slice (some ⟨b62, 0, none⟩) 7 7) intR [1, 0, 1, 1, 3, 2, 4] rfl rfl (wfI (by decide)) ?_
   refine St.toSl (Rr := intR) (xs := [1, 0, 1, 1, 3, 2, 4]) (.slice (some ⟨b62, 0, none⟩) 7 7) rfl ?_
   refine St.nil (St.then_normal ?_)
   exact St.bagged _ rfl _ rfl
  refine Hops.cons (Hop.mk (fun e => []) (fun e => []) (fun _ => rfl) (fun _ => rfl) (fun c e hdr2 => ?_)) ?_
  ·skip
   refine St.app0 ?_
   refine St.bsl rfl (.cons (.mk rfl) (.cons (.mk rfl) (.cons (.mk rfl) .nil))) Tryd.underlying57 sz3 zv3 rfl rfl (by simp [Value.cells]) rfl rfl (fun b63 => ?_)
   refine St.publish (.slice (some ⟨b63, 0, none⟩) 3 3) intR [8, 4, 2] rfl rfl (wfI (by decide)) ?_
   refine St.toSl (Rr := intR) (xs := [8, 4, 2]) (.slice (some ⟨b63, 0, none⟩) 3 3) rfl ?_
   refine St.nil (St.then_normal ?_)
   exact St.bagged _ rfl _ rfl
  refine Hops.cons (Hop.mk (fun e => []) (fun e => []) (fun _ => rfl) (fun _ => rfl) (fun c e hdr2 => ?_)) ?_
  ·skip
   refine St.app0 ?_
   refine St.bsl rfl (.cons (.mk rfl) .nil) Tryd.underlying57 sz3 zv3 rfl rfl (by simp [Value.cells]) rfl rfl (fun b64 => ?_)
   refine St.publish (.slice (some ⟨b64, 0, none⟩) 1 1) intR [3] rfl rfl (wfI (by decide)) ?_
   refine St.toSl (Rr := intR) (xs := [3]) (.slice (some ⟨b64, 0, none⟩) 1 1) rfl ?_
   refine St.nil (St.then_normal ?_)
   exact St.bagged _ rfl _ rfl
  refine Hops.cons (Hop.mk (fun e => []) (fun e => []) (fun _ => rfl) (fun _ => rfl) (fun c e hdr2 => ?_)) ?_
  ·skip
   refine St.app0 ?_
   refine St.bsl rfl (.cons (.mk rfl) (.cons (.mk rfl) (.cons (.mk rfl) .nil))) Tryd.underlying57 sz3 zv3 rfl rfl (by simp [Value.cells]) rfl rfl (fun b65 => ?_)
   refine St.publish (.slice (some ⟨b65, 0, none⟩) 3 3) intR [12, 4, 2] rfl rfl (wfI (by decide)) ?_
   refine St.toSl (Rr := intR) (xs := [12, 4, 2]) (.slice (some ⟨b65, 0, none⟩) 3 3) rfl ?_
   refine St.nil (St.then_normal ?_)
   exact St.bagged _ rfl _ rfl
  refine Hops.cons (Hop.mk (fun e => []) (fun e => []) (fun _ => rfl) (fun _ => rfl) (fun c e hdr2 => ?_)) ?_
  ·skip
   refine St.app0 ?_
   refine St.bsl rfl (.cons (.mk rfl) .nil) Tryd.underlying57 sz3 zv3 rfl rfl (by simp [Value.cells]) rfl rfl (fun b66 => ?_)
   refine St.publish (.slice (some ⟨b66, 0, none⟩) 1 1) intR [7] rfl rfl (wfI (by decide)) ?_
   refine St.toSl (Rr := intR) (xs := [7]) (.slice (some ⟨b66, 0, none⟩) 1 1) rfl ?_
   refine St.nil (St.then_normal ?_)
   exact St.bagged _ rfl _ rfl
  refine Hops.cons (Hop.mk (fun e => [(62, e 35), (63, e 36), (64, e 37), (65, e 38), (66, e 39)]) (fun e => [dat (isSl intR [1, 0, 1, 1, 3, 2, 4] (e 35)), dat (isSl intR [8, 4, 2] (e 36)), dat (isSl intR [3] (e 37)), dat (isSl intR [12, 4, 2] (e 38)), dat (isSl intR [7] (e 39))]) (fun _ => rfl) (fun _ => rfl) (fun c e hdr2 => ?_)) ?_
  ·skip
   refine St.app5 ?_
   refine St.isSl intR [1, 0, 1, 1, 3, 2, 4] (e 35) (fun h62 => ?_)
   refine St.isSl intR [8, 4, 2] (e 36) (fun h63 => ?_)
   refine St.isSl intR [3] (e 37) (fun h64 => ?_)
   refine St.isSl intR [12, 4, 2] (e 38) (fun h65 => ?_)
   refine St.isSl intR [7] (e 39) (fun h66 => ?_)
   refine St.bsl rfl (.cons (.mk rfl) (.cons (.mk rfl) (.cons (.mk rfl) (.cons (.mk rfl) (.cons (.mk rfl) .nil))))) Tryd.underlying40 sz57 zv57 rfl rfl (by simp [J.cells_one h62, J.cells_one h63, J.cells_one h64, J.cells_one h65, J.cells_one h66]) rfl rfl (fun b67 => ?_)
   refine St.publish (.slice (some ⟨b67, 0, none⟩) 5 5) valR [⟨e 35, h62⟩, ⟨e 36, h63⟩, ⟨e 37, h64⟩, ⟨e 38, h65⟩, ⟨e 39, h66⟩] (show _ = rows valR [⟨e 35, h62⟩, ⟨e 36, h63⟩, ⟨e 37, h64⟩, ⟨e 38, h65⟩, ⟨e 39, h66⟩] by simp only [List.flatMap_cons, List.flatMap_nil, J.cells_one h62, J.cells_one h63, J.cells_one h64, J.cells_one h65, J.cells_one h66]; rfl) rfl (fun _ _ => trivial) ?_
   refine nsl_of intR (.slice (some ⟨b67, 0, none⟩) 5 5) [⟨e 35, h62⟩, ⟨e 36, h63⟩, ⟨e 37, h64⟩, ⟨e 38, h65⟩, ⟨e 39, h66⟩] [[1, 0, 1, 1, 3, 2, 4], [8, 4, 2], [3], [12, 4, 2], [7]] [sl intR (e 35) [1, 0, 1, 1, 3, 2, 4], sl intR (e 36) [8, 4, 2], sl intR (e 37) [3], sl intR (e 38) [12, 4, 2], sl intR (e 39) [7]] rfl rfl ?_
   refine St.toNsl (Rr := intR) (xs := [[1, 0, 1, 1, 3, 2, 4], [8, 4, 2], [3], [12, 4, 2], [7]]) (.slice (some ⟨b67, 0, none⟩) 5 5) rfl ?_
   refine St.nil (St.then_normal ?_)
   exact St.bagged _ rfl _ rfl
  refine Hops.cons (Hop.mk (fun e => [(67, e 40)]) (fun e => [dat (isNsl intR [[1, 0, 1, 1, 3, 2, 4], [8, 4, 2], [3], [12, 4, 2], [7]] (e 40))]) (fun _ => rfl) (fun _ => rfl) (fun c e hdr2 => ?_)) ?_
  ·skip
   refine St.app1 ?_
   refine St.calld (graphOf_spec (e 40) [[1, 0, 1, 1, 3, 2, 4], [8, 4, 2], [3], [12, 4, 2], [7]] (by decide) (by decide)) cb29 (.cons (.mk rfl) .nil) rfl ?_
   rintro v68 _ rfl
   refine St.app1 ?_
   refine St.nil (St.then_normal ?_)
   exact St.bagged _ rfl _ rfl
  refine Hops.cons (Hop.mk (fun e => [(61, e 34), (68, e 41)]) (fun e => [dat (eqD (e 34) (termV m3)), dat (isGraph (graph0 [[1, 0, 1, 1, 3, 2, 4], [8, 4, 2], [3], [12, 4, 2], [7]]) (e 41))]) (fun _ => rfl) (fun _ => rfl) (fun c e hdr2 => ?_)) ?_
  ·skip
   refine St.app2 ?_
   refine St.eqSlot (P := Tryd.prog) 61 (e 34) (termV m3) rfl ?_
   refine St.isGraph (graph0 [[1, 0, 1, 1, 3, 2, 4], [8, 4, 2], [3], [12, 4, 2], [7]]) (e 41) (fun y hy => ?_)
   obtain ⟨hyV, hyE⟩ := hy
   rw [hyV]
   refine St.ev _ (Ev.build (ps := [(0, (.const (.string ⟨#[118, 112, 45, 116, 118]⟩))), (2, (.const (.int .i64 2))), (3, (.const (.int .i64 2))), (4, (.tmp 61)), (1, (.tmp 68))]) (Opds.cons (Opd.mk rfl) (Opds.cons (Opd.mk rfl) (Opds.cons (Opd.mk rfl) (Opds.cons (Opd.mk rfl) (Opds.cons (Opd.mk rfl) Opds.nil))))) (fun w => bld91_0_2_3_4_1 rfl rfl rfl w)) rfl ?_
   refine St.mkD (isRule ⟨[118, 112, 45, 116, 118], (graph0 [[1, 0, 1, 1, 3, 2, 4], [8, 4, 2], [3], [12, 4, 2], [7]]), 2, 2, (abs0 (fn0 (.mk [101] []) (fn0 (.mk [101] []) (.mk [116] []))) (abs0 (fn0 (fn0 (.mk [101] []) (.mk [116] [])) (.mk [116] [])) (abs0 (.mk [101] []) (app0 (bd0 1) (abs0 (.mk [101] []) (app0 (app0 (bd0 3) (bd0 1)) (bd0 0)))))))⟩ (ruleV (⟨[118, 112, 45, 116, 118], y, 2, 2, m3⟩ : RuleD))) [graphD y, termD m3] (fun ρ h => ⟨(⟨[118, 112, 45, 116, 118], y, 2, 2, m3⟩ : RuleD), rfl, by show (⟨_, grE y, _, _, termE m3⟩ : Ru0) = _; rw [hyE, hm3], ⟨(show slen [118, 112, 45, 116, 118] by decide), (show i64ok 2 by unfold i64ok; decide), (show i64ok 2 by unfold i64ok; decide), hmw3⟩, h⟩) ?_
   refine St.nil (St.then_normal ?_)
   exact St.bagged _ rfl _ rfl
  refine Hops.cons (Hop.mk (fun e => []) (fun e => []) (fun _ => rfl) (fun _ => rfl) (fun c e hdr2 => ?_)) ?_
  ·skip
   refine St.app0 ?_
   refine St.mv ?_
   refine St.fact (eqD v26 v26) (fun _ _ _ => rfl) ?_
   refine St.nil (St.then_normal ?_)
   exact St.bagged _ rfl _ rfl
  refine Hops.cons (Hop.mk (fun e => [(70, e 43)]) (fun e => [dat (eqD (e 43) v26)]) (fun _ => rfl) (fun _ => rfl) (fun c e hdr2 => ?_)) ?_
  ·skip
   refine St.app1 ?_
   refine St.eqSlot (P := Tryd.prog) 70 (e 43) v26 rfl ?_
   refine St.ev _ (Ev.idxaddr (k := 4) (.mk rfl) (.mk rfl) Tryd.underlying78 sz80 (by omega) (by simp)) rfl ?_
   refine St.fact (eqD (eptr v26 termR.size 4 0) (eptr v26 termR.size 4 0)) (fun _ _ _ => rfl) ?_
   refine St.nil (St.then_normal ?_)
   exact St.bagged _ rfl _ rfl
  refine Hops.cons (Hop.mk (fun e => [(71, e 44)]) (fun e => [dat (eqD (e 44) (eptr v26 termR.size 4 0))]) (fun _ => rfl) (fun _ => rfl) (fun c e hdr2 => ?_)) ?_
  ·skip
   refine St.app1 ?_
   refine St.eqSlot (P := Tryd.prog) 71 (e 44) (eptr v26 termR.size 4 0) rfl ?_
   refine St.ev _ (Ev.ldA (.mk rfl) (show [m0, m1, m2, m3, m4, m5][4]? = some m4 from rfl) Tryd.underlying80 trivial sz80 Cel.eq) rfl ?_
   refine St.fact (eqD (termV m4) (termV m4)) (fun _ _ _ => rfl) ?_
   refine St.nil (St.then_normal ?_)
   exact St.bagged _ rfl _ rfl
  refine Hops.cons (Hop.mk (fun e => []) (fun e => []) (fun _ => rfl) (fun _ => rfl) (fun c e hdr2 => ?_)) ?_
  ·skip
   refine St.app0 ?_
   refine St.bsl rfl (.cons (.mk rfl) (.cons (.mk rfl) (.cons (.mk rfl) (.cons (.mk rfl) (.cons (.mk rfl) (.cons (.mk rfl) (.cons (.mk rfl) .nil))))))) Tryd.underlying57 sz3 zv3 rfl rfl (by simp [Value.cells]) rfl rfl (fun b73 => ?_)
   refine St.publish (.slice (some ⟨b73, 0, none⟩) 7 7) intR [1, 0, 1, 1, 3, 2, 4] rfl rfl (wfI (by decide)) ?_
   refine St.toSl (Rr := intR) (xs := [1, 0, 1, 1, 3, 2, 4]) (.slice (some ⟨b73, 0, none⟩) 7 7) rfl ?_
   refine St.nil (St.then_normal ?_)
   exact St.bagged _ rfl _ rfl
  refine Hops.cons (Hop.mk (fun e => []) (fun e => []) (fun _ => rfl) (fun _ => rfl) (fun c e hdr2 => ?_)) ?_
  ·skip
   refine St.app0 ?_
   refine St.bsl rfl (.cons (.mk rfl) (.cons (.mk rfl) (.cons (.mk rfl) .nil))) Tryd.underlying57 sz3 zv3 rfl rfl (by simp [Value.cells]) rfl rfl (fun b74 => ?_)
   refine St.publish (.slice (some ⟨b74, 0, none⟩) 3 3) intR [8, 4, 2] rfl rfl (wfI (by decide)) ?_
   refine St.toSl (Rr := intR) (xs := [8, 4, 2]) (.slice (some ⟨b74, 0, none⟩) 3 3) rfl ?_
   refine St.nil (St.then_normal ?_)
   exact St.bagged _ rfl _ rfl
  refine Hops.cons (Hop.mk (fun e => []) (fun e => []) (fun _ => rfl) (fun _ => rfl) (fun c e hdr2 => ?_)) ?_
  ·skip
   refine St.app0 ?_
   refine St.bsl rfl (.cons (.mk rfl) .nil) Tryd.underlying57 sz3 zv3 rfl rfl (by simp [Value.cells]) rfl rfl (fun b75 => ?_)
   refine St.publish (.slice (some ⟨b75, 0, none⟩) 1 1) intR [3] rfl rfl (wfI (by decide)) ?_
   refine St.toSl (Rr := intR) (xs := [3]) (.slice (some ⟨b75, 0, none⟩) 1 1) rfl ?_
   refine St.nil (St.then_normal ?_)
   exact St.bagged _ rfl _ rfl
  refine Hops.cons (Hop.mk (fun e => []) (fun e => []) (fun _ => rfl) (fun _ => rfl) (fun c e hdr2 => ?_)) ?_
  ·skip
   refine St.app0 ?_
   refine St.bsl rfl (.cons (.mk rfl) .nil) Tryd.underlying57 sz3 zv3 rfl rfl (by simp [Value.cells]) rfl rfl (fun b76 => ?_)
   refine St.publish (.slice (some ⟨b76, 0, none⟩) 1 1) intR [13] rfl rfl (wfI (by decide)) ?_
   refine St.toSl (Rr := intR) (xs := [13]) (.slice (some ⟨b76, 0, none⟩) 1 1) rfl ?_
   refine St.nil (St.then_normal ?_)
   exact St.bagged _ rfl _ rfl
  refine Hops.cons (Hop.mk (fun e => []) (fun e => []) (fun _ => rfl) (fun _ => rfl) (fun c e hdr2 => ?_)) ?_
  ·skip
   refine St.app0 ?_
   refine St.bsl rfl (.cons (.mk rfl) (.cons (.mk rfl) (.cons (.mk rfl) .nil))) Tryd.underlying57 sz3 zv3 rfl rfl (by simp [Value.cells]) rfl rfl (fun b77 => ?_)
   refine St.publish (.slice (some ⟨b77, 0, none⟩) 3 3) intR [8, 4, 2] rfl rfl (wfI (by decide)) ?_
   refine St.toSl (Rr := intR) (xs := [8, 4, 2]) (.slice (some ⟨b77, 0, none⟩) 3 3) rfl ?_
   refine St.nil (St.then_normal ?_)
   exact St.bagged _ rfl _ rfl
  refine Hops.cons (Hop.mk (fun e => [(73, e 46), (74, e 47), (75, e 48), (76, e 49), (77, e 50)]) (fun e => [dat (isSl intR [1, 0, 1, 1, 3, 2, 4] (e 46)), dat (isSl intR [8, 4, 2] (e 47)), dat (isSl intR [3] (e 48)), dat (isSl intR [13] (e 49)), dat (isSl intR [8, 4, 2] (e 50))]) (fun _ => rfl) (fun _ => rfl) (fun c e hdr2 => ?_)) ?_
  ·skip
   refine St.app5 ?_
   refine St.isSl intR [1, 0, 1, 1, 3, 2, 4] (e 46) (fun h73 => ?_)
   refine St.isSl intR [8, 4, 2] (e 47) (fun h74 => ?_)
   refine St.isSl intR [3] (e 48) (fun h75 => ?_)
   refine St.isSl intR [13] (e 49) (fun h76 => ?_)
   refine St.isSl intR [8, 4, 2] (e 50) (fun h77 => ?_)
   refine St.bsl rfl (.cons (.mk rfl) (.cons (.mk rfl) (.cons (.mk rfl) (.cons (.mk rfl) (.cons (.mk rfl) .nil))))) Tryd.underlying40 sz57 zv57 rfl rfl (by simp [J.cells_one h73, J.cells_one h74, J.cells_one h75, J.cells_one h76, J.cells_one h77]) rfl rfl (fun b78 => ?_)
   refine St.publish (.slice (some ⟨b78, 0, none⟩) 5 5) valR [⟨e 46, h73⟩, ⟨e 47, h74⟩, ⟨e 48, h75⟩, ⟨e 49, h76⟩, ⟨e 50, h77⟩] (show _ = rows valR [⟨e 46, h73⟩, ⟨e 47, h74⟩, ⟨e 48, h75⟩, ⟨e 49, h76⟩, ⟨e 50, h77⟩] by simp only [List.flatMap_cons, List.flatMap_nil, J.cells_one h73, J.cells_one h74, J.cells_one h75, J.cells_one h76, J.cells_one h77]; rfl) rfl (fun _ _ => trivial) ?_
   refine nsl_of intR (.slice (some ⟨b78, 0, none⟩) 5 5) [⟨e 46, h73⟩, ⟨e 47, h74⟩, ⟨e 48, h75⟩, ⟨e 49, h76⟩, ⟨e 50, h77⟩] [[1, 0, 1, 1, 3, 2, 4], [8, 4, 2], [3], [13], [8, 4, 2]] [sl intR (e 46) [1, 0, 1, 1, 3, 2, 4], sl intR (e 47) [8, 4, 2], sl intR (e 48) [3], sl intR (e 49) [13], sl intR (e 50) [8, 4, 2]] rfl rfl ?_
   refine St.toNsl (Rr := intR) (xs := [[1, 0, 1, 1, 3, 2, 4], [8, 4, 2], [3], [13], [8, 4, 2]]) (.slice (some ⟨b78, 0, none⟩) 5 5) rfl ?_
   refine St.nil (St.then_normal ?_)
   exact St.bagged _ rfl _ rfl
  refine Hops.cons (Hop.mk (fun e => [(78, e 51)]) (fun e => [dat (isNsl intR [[1, 0, 1, 1, 3, 2, 4], [8, 4, 2], [3], [13], [8, 4, 2]] (e 51))]) (fun _ => rfl) (fun _ => rfl) (fun c e hdr2 => ?_)) ?_
  ·skip
   refine St.app1 ?_
   refine St.calld (graphOf_spec (e 51) [[1, 0, 1, 1, 3, 2, 4], [8, 4, 2], [3], [13], [8, 4, 2]] (by decide) (by decide)) cb29 (.cons (.mk rfl) .nil) rfl ?_
   rintro v79 _ rfl
   refine St.app1 ?_
   refine St.nil (St.then_normal ?_)
   exact St.bagged _ rfl _ rfl
  refine Hops.cons (Hop.mk (fun e => [(72, e 45), (79, e 52)]) (fun e => [dat (eqD (e 45) (termV m4)), dat (isGraph (graph0 [[1, 0, 1, 1, 3, 2, 4], [8, 4, 2], [3], [13], [8, 4, 2]]) (e 52))]) (fun _ => rfl) (fun _ => rfl) (fun c e hdr2 => ?_)) ?_
  ·skip
   refine St.app2 ?_
   refine St.eqSlot (P := Tryd.prog) 72 (e 45) (termV m4) rfl ?_
   refine St.isGraph (graph0 [[1, 0, 1, 1, 3, 2, 4], [8, 4, 2], [3], [13], [8, 4, 2]]) (e 52) (fun y hy => ?_)
   obtain ⟨hyV, hyE⟩ := hy
   rw [hyV]
   refine St.ev _ (Ev.build (ps := [(0, (.const (.string ⟨#[118, 112, 45, 110, 111, 116]⟩))), (2, (.const (.int .i64 2))), (3, (.const (.int .i64 3))), (4, (.tmp 72)), (1, (.tmp 79))]) (Opds.cons (Opd.mk rfl) (Opds.cons (Opd.mk rfl) (Opds.cons (Opd.mk rfl) (Opds.cons (Opd.mk rfl) (Opds.cons (Opd.mk rfl) Opds.nil))))) (fun w => bld91_0_2_3_4_1 rfl rfl rfl w)) rfl ?_
   refine St.mkD (isRule ⟨[118, 112, 45, 110, 111, 116], (graph0 [[1, 0, 1, 1, 3, 2, 4], [8, 4, 2], [3], [13], [8, 4, 2]]), 2, 3, (abs0 (fn0 (.mk [116] []) (.mk [116] [])) (abs0 (fn0 (.mk [101] []) (.mk [116] [])) (abs0 (.mk [101] []) (app0 (bd0 2) (app0 (bd0 1) (bd0 0))))))⟩ (ruleV (⟨[118, 112, 45, 110, 111, 116], y, 2, 3, m4⟩ : RuleD))) [graphD y, termD m4] (fun ρ h => ⟨(⟨[118, 112, 45, 110, 111, 116], y, 2, 3, m4⟩ : RuleD), rfl, by show (⟨_, grE y, _, _, termE m4⟩ : Ru0) = _; rw [hyE, hm4], ⟨(show slen [118, 112, 45, 110, 111, 116] by decide), (show i64ok 2 by unfold i64ok; decide), (show i64ok 3 by unfold i64ok; decide), hmw4⟩, h⟩) ?_
   refine St.nil (St.then_normal ?_)
   exact St.bagged _ rfl _ rfl
  refine Hops.cons (Hop.mk (fun e => []) (fun e => []) (fun _ => rfl) (fun _ => rfl) (fun c e hdr2 => ?_)) ?_
  ·skip
   refine St.app0 ?_
   refine St.mv ?_
   refine St.fact (eqD v26 v26) (fun _ _ _ => rfl) ?_
   refine St.nil (St.then_normal ?_)
   exact St.bagged _ rfl _ rfl
  refine Hops.cons (Hop.mk (fun e => [(81, e 54)]) (fun e => [dat (eqD (e 54) v26)]) (fun _ => rfl) (fun _ => rfl) (fun c e hdr2 => ?_)) ?_
  ·skip
   refine St.app1 ?_
   refine St.eqSlot (P := Tryd.prog) 81 (e 54) v26 rfl ?_
   refine St.ev _ (Ev.idxaddr (k := 5) (.mk rfl) (.mk rfl) Tryd.underlying78 sz80 (by omega) (by simp)) rfl ?_
   refine St.fact (eqD (eptr v26 termR.size 5 0) (eptr v26 termR.size 5 0)) (fun _ _ _ => rfl) ?_
   refine St.nil (St.then_normal ?_)
   exact St.bagged _ rfl _ rfl
  refine Hops.cons (Hop.mk (fun e => [(82, e 55)]) (fun e => [dat (eqD (e 55) (eptr v26 termR.size 5 0))]) (fun _ => rfl) (fun _ => rfl) (fun c e hdr2 => ?_)) ?_
  ·skip
   refine St.app1 ?_
   refine St.eqSlot (P := Tryd.prog) 82 (e 55) (eptr v26 termR.size 5 0) rfl ?_
   refine St.ev _ (Ev.ldA (.mk rfl) (show [m0, m1, m2, m3, m4, m5][5]? = some m5 from rfl) Tryd.underlying80 trivial sz80 Cel.eq) rfl ?_
   refine St.fact (eqD (termV m5) (termV m5)) (fun _ _ _ => rfl) ?_
   refine St.nil (St.then_normal ?_)
   exact St.bagged _ rfl _ rfl
  refine Hops.cons (Hop.mk (fun e => []) (fun e => []) (fun _ => rfl) (fun _ => rfl) (fun c e hdr2 => ?_)) ?_
  ·skip
   refine St.app0 ?_
   refine St.bsl rfl (.cons (.mk rfl) (.cons (.mk rfl) (.cons (.mk rfl) (.cons (.mk rfl) (.cons (.mk rfl) (.cons (.mk rfl) (.cons (.mk rfl) (.cons (.mk rfl) (.cons (.mk rfl) .nil))))))))) Tryd.underlying57 sz3 zv3 rfl rfl (by simp [Value.cells]) rfl rfl (fun b84 => ?_)
   refine St.publish (.slice (some ⟨b84, 0, none⟩) 9 9) intR [1, 0, 1, 1, 3, 2, 4, 3, 5] rfl rfl (wfI (by decide)) ?_
   refine St.toSl (Rr := intR) (xs := [1, 0, 1, 1, 3, 2, 4, 3, 5]) (.slice (some ⟨b84, 0, none⟩) 9 9) rfl ?_
   refine St.nil (St.then_normal ?_)
   exact St.bagged _ rfl _ rfl
  refine Hops.cons (Hop.mk (fun e => []) (fun e => []) (fun _ => rfl) (fun _ => rfl) (fun c e hdr2 => ?_)) ?_
  ·skip
   refine St.app0 ?_
   refine St.bsl rfl (.cons (.mk rfl) (.cons (.mk rfl) (.cons (.mk rfl) .nil))) Tryd.underlying57 sz3 zv3 rfl rfl (by simp [Value.cells]) rfl rfl (fun b85 => ?_)
   refine St.publish (.slice (some ⟨b85, 0, none⟩) 3 3) intR [7, 4, 2] rfl rfl (wfI (by decide)) ?_
   refine St.toSl (Rr := intR) (xs := [7, 4, 2]) (.slice (some ⟨b85, 0, none⟩) 3 3) rfl ?_
   refine St.nil (St.then_normal ?_)
   exact St.bagged _ rfl _ rfl
  refine Hops.cons (Hop.mk (fun e => []) (fun e => []) (fun _ => rfl) (fun _ => rfl) (fun c e hdr2 => ?_)) ?_
  ·skip
   refine St.app0 ?_
   refine St.bsl rfl (.cons (.mk rfl) .nil) Tryd.underlying57 sz3 zv3 rfl rfl (by simp [Value.cells]) rfl rfl (fun b86 => ?_)
   refine St.publish (.slice (some ⟨b86, 0, none⟩) 1 1) intR [5] rfl rfl (wfI (by decide)) ?_
   refine St.toSl (Rr := intR) (xs := [5]) (.slice (some ⟨b86, 0, none⟩) 1 1) rfl ?_
   refine St.nil (St.then_normal ?_)
   exact St.bagged _ rfl _ rfl
  refine Hops.cons (Hop.mk (fun e => []) (fun e => []) (fun _ => rfl) (fun _ => rfl) (fun c e hdr2 => ?_)) ?_
  ·skip
   refine St.app0 ?_
   refine St.bsl rfl (.cons (.mk rfl) .nil) Tryd.underlying57 sz3 zv3 rfl rfl (by simp [Value.cells]) rfl rfl (fun b87 => ?_)
   refine St.publish (.slice (some ⟨b87, 0, none⟩) 1 1) intR [7] rfl rfl (wfI (by decide)) ?_
   refine St.toSl (Rr := intR) (xs := [7]) (.slice (some ⟨b87, 0, none⟩) 1 1) rfl ?_
   refine St.nil (St.then_normal ?_)
   exact St.bagged _ rfl _ rfl
  refine Hops.cons (Hop.mk (fun e => []) (fun e => []) (fun _ => rfl) (fun _ => rfl) (fun c e hdr2 => ?_)) ?_
  ·skip
   refine St.app0 ?_
   refine St.bsl rfl (.cons (.mk rfl) .nil) Tryd.underlying57 sz3 zv3 rfl rfl (by simp [Value.cells]) rfl rfl (fun b88 => ?_)
   refine St.publish (.slice (some ⟨b88, 0, none⟩) 1 1) intR [14] rfl rfl (wfI (by decide)) ?_
   refine St.toSl (Rr := intR) (xs := [14]) (.slice (some ⟨b88, 0, none⟩) 1 1) rfl ?_
   refine St.nil (St.then_normal ?_)
   exact St.bagged _ rfl _ rfl
  refine Hops.cons (Hop.mk (fun e => []) (fun e => []) (fun _ => rfl) (fun _ => rfl) (fun c e hdr2 => ?_)) ?_
  ·skip
   refine St.app0 ?_
   refine St.bsl rfl (.cons (.mk rfl) .nil) Tryd.underlying57 sz3 zv3 rfl rfl (by simp [Value.cells]) rfl rfl (fun b89 => ?_)
   refine St.publish (.slice (some ⟨b89, 0, none⟩) 1 1) intR [7] rfl rfl (wfI (by decide)) ?_
   refine St.toSl (Rr := intR) (xs := [7]) (.slice (some ⟨b89, 0, none⟩) 1 1) rfl ?_
   refine St.nil (St.then_normal ?_)
   exact St.bagged _ rfl _ rfl
  refine Hops.cons (Hop.mk (fun e => [(84, e 57), (85, e 58), (86, e 59), (87, e 60), (88, e 61), (89, e 62)]) (fun e => [dat (isSl intR [1, 0, 1, 1, 3, 2, 4, 3, 5] (e 57)), dat (isSl intR [7, 4, 2] (e 58)), dat (isSl intR [5] (e 59)), dat (isSl intR [7] (e 60)), dat (isSl intR [14] (e 61)), dat (isSl intR [7] (e 62))]) (fun _ => rfl) (fun _ => rfl) (fun c e hdr2 => ?_)) ?_
  ·skip
   refine St.app6 ?_
   refine St.isSl intR [1, 0, 1, 1, 3, 2, 4, 3, 5] (e 57) (fun h84 => ?_)
   refine St.isSl intR [7, 4, 2] (e 58) (fun h85 => ?_)
   refine St.isSl intR [5] (e 59) (fun h86 => ?_)
   refine St.isSl intR [7] (e 60) (fun h87 => ?_)
   refine St.isSl intR [14] (e 61) (fun h88 => ?_)
   refine St.isSl intR [7] (e 62) (fun h89 => ?_)
   refine St.bsl rfl (.cons (.mk rfl) (.cons (.mk rfl) (.cons (.mk rfl) (.cons (.mk rfl) (.cons (.mk rfl) (.cons (.mk rfl) .nil)))))) Tryd.underlying40 sz57 zv57 rfl rfl (by simp [J.cells_one h84, J.cells_one h85, J.cells_one h86, J.cells_one h87, J.cells_one h88, J.cells_one h89]) rfl rfl (fun b90 => ?_)
   refine St.publish (.slice (some ⟨b90, 0, none⟩) 6 6) valR [⟨e 57, h84⟩, ⟨e 58, h85⟩, ⟨e 59, h86⟩, ⟨e 60, h87⟩, ⟨e 61, h88⟩, ⟨e 62, h89⟩] (show _ = rows valR [⟨e 57, h84⟩, ⟨e 58, h85⟩, ⟨e 59, h86⟩, ⟨e 60, h87⟩, ⟨e 61, h88⟩, ⟨e 62, h89⟩] by simp only [List.flatMap_cons, List.flatMap_nil, J.cells_one h84, J.cells_one h85, J.cells_one h86, J.cells_one h87, J.cells_one h88, J.cells_one h89]; rfl) rfl (fun _ _ => trivial) ?_
   refine nsl_of intR (.slice (some ⟨b90, 0, none⟩) 6 6) [⟨e 57, h84⟩, ⟨e 58, h85⟩, ⟨e 59, h86⟩, ⟨e 60, h87⟩, ⟨e 61, h88⟩, ⟨e 62, h89⟩] [[1, 0, 1, 1, 3, 2, 4, 3, 5], [7, 4, 2], [5], [7], [14], [7]] [sl intR (e 57) [1, 0, 1, 1, 3, 2, 4, 3, 5], sl intR (e 58) [7, 4, 2], sl intR (e 59) [5], sl intR (e 60) [7], sl intR (e 61) [14], sl intR (e 62) [7]] rfl rfl ?_
   refine St.toNsl (Rr := intR) (xs := [[1, 0, 1, 1, 3, 2, 4, 3, 5], [7, 4, 2], [5], [7], [14], [7]]) (.slice (some ⟨b90, 0, none⟩) 6 6) rfl ?_
   refine St.nil (St.then_normal ?_)
   exact St.bagged _ rfl _ rfl
  refine Hops.cons (Hop.mk (fun e => [(90, e 63)]) (fun e => [dat (isNsl intR [[1, 0, 1, 1, 3, 2, 4, 3, 5], [7, 4, 2], [5], [7], [14], [7]] (e 63))]) (fun _ => rfl) (fun _ => rfl) (fun c e hdr2 => ?_)) ?_
  ·skip
   refine St.app1 ?_
   refine St.calld (graphOf_spec (e 63) [[1, 0, 1, 1, 3, 2, 4, 3, 5], [7, 4, 2], [5], [7], [14], [7]] (by decide) (by decide)) cb29 (.cons (.mk rfl) .nil) rfl ?_
   rintro v91 _ rfl
   refine St.app1 ?_
   refine St.nil (St.then_normal ?_)
   exact St.bagged _ rfl _ rfl
  refine Hops.cons (Hop.mk (fun e => [(83, e 56), (91, e 64)]) (fun e => [dat (eqD (e 56) (termV m5)), dat (isGraph (graph0 [[1, 0, 1, 1, 3, 2, 4, 3, 5], [7, 4, 2], [5], [7], [14], [7]]) (e 64))]) (fun _ => rfl) (fun _ => rfl) (fun c e hdr2 => ?_)) ?_
  ·skip
   refine St.app2 ?_
   refine St.eqSlot (P := Tryd.prog) 83 (e 56) (termV m5) rfl ?_
   refine St.isGraph (graph0 [[1, 0, 1, 1, 3, 2, 4, 3, 5], [7, 4, 2], [5], [7], [14], [7]]) (e 64) (fun y hy => ?_)
   obtain ⟨hyV, hyE⟩ := hy
   rw [hyV]
   refine St.ev _ (Ev.build (ps := [(0, (.const (.string ⟨#[110, 112, 45, 97, 110, 100]⟩))), (2, (.const (.int .i64 3))), (3, (.const (.int .i64 4))), (4, (.tmp 83)), (1, (.tmp 91))]) (Opds.cons (Opd.mk rfl) (Opds.cons (Opd.mk rfl) (Opds.cons (Opd.mk rfl) (Opds.cons (Opd.mk rfl) (Opds.cons (Opd.mk rfl) Opds.nil))))) (fun w => bld91_0_2_3_4_1 rfl rfl rfl w)) rfl ?_
   refine St.mkD (isRule ⟨[110, 112, 45, 97, 110, 100], (graph0 [[1, 0, 1, 1, 3, 2, 4, 3, 5], [7, 4, 2], [5], [7], [14], [7]]), 3, 4, (abs0 (fn0 (fn0 (.mk [101] []) (.mk [116] [])) (.mk [116] [])) (abs0 (fn0 (.mk [116] []) (fn0 (.mk [116] []) (.mk [116] []))) (abs0 (fn0 (fn0 (.mk [101] []) (.mk [116] [])) (.mk [116] [])) (abs0 (fn0 (.mk [101] []) (.mk [116] [])) (app0 (app0 (bd0 2) (app0 (bd0 3) (bd0 0))) (app0 (bd0 1) (bd0 0)))))))⟩ (ruleV (⟨[110, 112, 45, 97, 110, 100], y, 3, 4, m5⟩ : RuleD))) [graphD y, termD m5] (fun ρ h => ⟨(⟨[110, 112, 45, 97, 110, 100], y, 3, 4, m5⟩ : RuleD), rfl, by show (⟨_, grE y, _, _, termE m5⟩ : Ru0) = _; rw [hyE, hm5], ⟨(show slen [110, 112, 45, 97, 110, 100] by decide), (show i64ok 3 by unfold i64ok; decide), (show i64ok 4 by unfold i64ok; decide), hmw5⟩, h⟩) ?_
   refine St.nil (St.then_normal ?_)
   exact St.bagged _ rfl _ rfl
  refine Hops.cons (Hop.mk (fun e => [(37, e 10), (48, e 21), (58, e 31), (69, e 42), (80, e 53), (92, e 65)]) (fun e => [dat (isRule ⟨[115], (graph0 [[1, 0, 1, 1, 2, 2, 4], [6], [7, 4, 3], [3], [8, 4, 3]]), 2, 0, (abs0 (fn0 (fn0 (.mk [101] []) (.mk [116] [])) (.mk [116] [])) (abs0 (fn0 (.mk [101] []) (.mk [116] [])) (app0 (bd0 1) (bd0 0))))⟩ (e 10)), dat (isRule ⟨[110, 112], (graph0 [[1, 0, 1, 1, 3, 2, 4], [7, 4, 2], [3], [10, 4, 2], [9, 4, 2]]), 2, 1, (abs0 (fn0 (fn0 (.mk [101] []) (.mk [116] [])) (fn0 (fn0 (.mk [101] []) (.mk [116] [])) (.mk [116] []))) (abs0 (fn0 (.mk [101] []) (.mk [116] [])) (app0 (bd0 1) (bd0 0))))⟩ (e 21)), dat (isRule ⟨[118, 112, 45, 105, 118], (graph0 [[1, 0, 1, 1, 3], [8, 4, 2], [3], [11, 4, 2]]), 1, 0, (abs0 (fn0 (.mk [101] []) (.mk [116] [])) (bd0 0))⟩ (e 31)), dat (isRule ⟨[118, 112, 45, 116, 118], (graph0 [[1, 0, 1, 1, 3, 2, 4], [8, 4, 2], [3], [12, 4, 2], [7]]), 2, 2, (abs0 (fn0 (.mk [101] []) (fn0 (.mk [101] []) (.mk [116] []))) (abs0 (fn0 (fn0 (.mk [101] []) (.mk [116] [])) (.mk [116] [])) (abs0 (.mk [101] []) (app0 (bd0 1) (abs0 (.mk [101] []) (app0 (app0 (bd0 3) (bd0 1)) (bd0 0)))))))⟩ (e 42)), dat (isRule ⟨[118, 112, 45, 110, 111, 116], (graph0 [[1, 0, 1, 1, 3, 2, 4], [8, 4, 2], [3], [13], [8, 4, 2]]), 2, 3, (abs0 (fn0 (.mk [116] []) (.mk [116] [])) (abs0 (fn0 (.mk [101] []) (.mk [116] [])) (abs0 (.mk [101] []) (app0 (bd0 2) (app0 (bd0 1) (bd0 0))))))⟩ (e 53)), dat (isRule ⟨[110, 112, 45, 97, 110, 100], (graph0 [[1, 0, 1, 1, 3, 2, 4, 3, 5], [7, 4, 2], [5], [7], [14], [7]]), 3, 4, (abs0 (fn0 (fn0 (.mk [101] []) (.mk [116] [])) (.mk [116] [])) (abs0 (fn0 (.mk [116] []) (fn0 (.mk [116] []) (.mk [116] []))) (abs0 (fn0 (fn0 (.mk [101] []) (.mk [116] [])) (.mk [116] [])) (abs0 (fn0 (.mk [101] []) (.mk [116] [])) (app0 (app0 (bd0 2) (app0 (bd0 3) (bd0 0))) (app0 (bd0 1) (bd0 0)))))))⟩ (e 65))]) (fun _ => rfl) (fun _ => rfl) (fun c e hdr2 => ?_)) ?_
  ·skip
   refine St.app6 ?_
   refine St.isRule ⟨[115], (graph0 [[1, 0, 1, 1, 2, 2, 4], [6], [7, 4, 3], [3], [8, 4, 3]]), 2, 0, (abs0 (fn0 (fn0 (.mk [101] []) (.mk [116] [])) (.mk [116] [])) (abs0 (fn0 (.mk [101] []) (.mk [116] [])) (app0 (bd0 1) (bd0 0))))⟩ (e 10) (fun r37 hr37 => ?_)
   obtain ⟨hr37V, hr37E, hr37w⟩ := hr37
   rw [hr37V]
   refine St.isRule ⟨[110, 112], (graph0 [[1, 0, 1, 1, 3, 2, 4], [7, 4, 2], [3], [10, 4, 2], [9, 4, 2]]), 2, 1, (abs0 (fn0 (fn0 (.mk [101] []) (.mk [116] [])) (fn0 (fn0 (.mk [101] []) (.mk [116] [])) (.mk [116] []))) (abs0 (fn0 (.mk [101] []) (.mk [116] [])) (app0 (bd0 1) (bd0 0))))⟩ (e 21) (fun r48 hr48 => ?_)
   obtain ⟨hr48V, hr48E, hr48w⟩ := hr48
   rw [hr48V]
   refine St.isRule ⟨[118, 112, 45, 105, 118], (graph0 [[1, 0, 1, 1, 3], [8, 4, 2], [3], [11, 4, 2]]), 1, 0, (abs0 (fn0 (.mk [101] []) (.mk [116] [])) (bd0 0))⟩ (e 31) (fun r58 hr58 => ?_)
   obtain ⟨hr58V, hr58E, hr58w⟩ := hr58
   rw [hr58V]
   refine St.isRule ⟨[118, 112, 45, 116, 118], (graph0 [[1, 0, 1, 1, 3, 2, 4], [8, 4, 2], [3], [12, 4, 2], [7]]), 2, 2, (abs0 (fn0 (.mk [101] []) (fn0 (.mk [101] []) (.mk [116] []))) (abs0 (fn0 (fn0 (.mk [101] []) (.mk [116] [])) (.mk [116] [])) (abs0 (.mk [101] []) (app0 (bd0 1) (abs0 (.mk [101] []) (app0 (app0 (bd0 3) (bd0 1)) (bd0 0)))))))⟩ (e 42) (fun r69 hr69 => ?_)
   obtain ⟨hr69V, hr69E, hr69w⟩ := hr69
   rw [hr69V]
   refine St.isRule ⟨[118, 112, 45, 110, 111, 116], (graph0 [[1, 0, 1, 1, 3, 2, 4], [8, 4, 2], [3], [13], [8, 4, 2]]), 2, 3, (abs0 (fn0 (.mk [116] []) (.mk [116] [])) (abs0 (fn0 (.mk [101] []) (.mk [116] [])) (abs0 (.mk [101] []) (app0 (bd0 2) (app0 (bd0 1) (bd0 0))))))⟩ (e 53) (fun r80 hr80 => ?_)
   obtain ⟨hr80V, hr80E, hr80w⟩ := hr80
   rw [hr80V]
   refine St.isRule ⟨[110, 112, 45, 97, 110, 100], (graph0 [[1, 0, 1, 1, 3, 2, 4, 3, 5], [7, 4, 2], [5], [7], [14], [7]]), 3, 4, (abs0 (fn0 (fn0 (.mk [101] []) (.mk [116] [])) (.mk [116] [])) (abs0 (fn0 (.mk [116] []) (fn0 (.mk [116] []) (.mk [116] []))) (abs0 (fn0 (fn0 (.mk [101] []) (.mk [116] [])) (.mk [116] [])) (abs0 (fn0 (.mk [101] []) (.mk [116] [])) (app0 (app0 (bd0 2) (app0 (bd0 3) (bd0 0))) (app0 (bd0 1) (bd0 0)))))))⟩ (e 65) (fun r92 hr92 => ?_)
   obtain ⟨hr92V, hr92E, hr92w⟩ := hr92
   rw [hr92V]
   refine St.bsl rfl (.cons (.mk rfl) (.cons (.mk rfl) (.cons (.mk rfl) (.cons (.mk rfl) (.cons (.mk rfl) (.cons (.mk rfl) .nil)))))) Tryd.underlying26 sz91 zv91 rfl rfl (by simp [Value.cells, J.cells_one r37.graph.nv.2, J.cells_one r37.mean.type.av.2, J.cells_one r37.mean.av.2, J.cells_one r48.graph.nv.2, J.cells_one r48.mean.type.av.2, J.cells_one r48.mean.av.2, J.cells_one r58.graph.nv.2, J.cells_one r58.mean.type.av.2, J.cells_one r58.mean.av.2, J.cells_one r69.graph.nv.2, J.cells_one r69.mean.type.av.2, J.cells_one r69.mean.av.2, J.cells_one r80.graph.nv.2, J.cells_one r80.mean.type.av.2, J.cells_one r80.mean.av.2, J.cells_one r92.graph.nv.2, J.cells_one r92.mean.type.av.2, J.cells_one r92.mean.av.2]) rfl rfl (fun b93 => ?_)
   refine St.publish (.slice (some ⟨b93, 0, none⟩) 6 6) ruleR [r37, r48, r58, r69, r80, r92] rfl rfl (all_cons hr37w (all_cons hr48w (all_cons hr58w (all_cons hr69w (all_cons hr80w (all_cons hr92w (all_nil))))))) ?_
   refine dall_of ruleD [r37, r48, r58, r69, r80, r92] [ruleD r37, ruleD r48, ruleD r58, ruleD r69, ruleD r80, ruleD r92] rfl ?_
   refine St.mkD (isRules smRules (.slice (some ⟨b93, 0, none⟩) 6 6)) [sl ruleR (.slice (some ⟨b93, 0, none⟩) 6 6) [r37, r48, r58, r69, r80, r92], dall ruleD [r37, r48, r58, r69, r80, r92]] (fun ρ h => ⟨rfl, [r37, r48, r58, r69, r80, r92], by simp only [List.map_cons, List.map_nil, hr37E, hr48E, hr58E, hr69E, hr80E, hr92E]; rfl, h (sl ruleR (.slice (some ⟨b93, 0, none⟩) 6 6) [r37, r48, r58, r69, r80, r92]) (by simp), h (dall ruleD [r37, r48, r58, r69, r80, r92]) (by simp)⟩) ?_
   refine St.nil (St.then_normal ?_)
   exact St.bagged _ rfl _ rfl
  exact Hops.nil
 refine St.app1 ?_
 refine St.isRules smRules (e 66) (fun rls hrls => ?_)
 obtain ⟨hrv, hrlsE⟩ := hrls
 generalize e 66 = rv at hrv ⊢
 refine St.nilrow 82 9 ?_
 refine St.rowEqN (.slice none 0 0) (show _ = ([] : List LexD).length from rfl) (show _ = rows lexR [] from rfl) ?_
 refine St.dallNil lexD ?_
 obtain ⟨X0, hX0⟩ : ∃ X : List LexD, X = [] := ⟨_, rfl⟩
 rw [← hX0]
 have hX0w : ∀ x ∈ X0, lexR.wf x := by rw [hX0]; exact fun x hx => by cases hx
 have hX0E : X0.map lxE = smLexes.take 0 := by rw [hX0]; rfl
 have hX0o : Value.oneCell' (.slice none 0 0) = true := rfl
 have hX0l : X0.length = 0 := by rw [hX0]; rfl
 refine St.ev _ (Ev.fldb0 (.mk rfl) fo32_1) rfl ?_
 refine St.store1 (.mk rfl) (.mk rfl) sz26 hrv (by rfl) ?_
 refine St.nil (St.then_normal (St.seq (St.rg ?_)))
 refine St.ev _ (Ev.func (.cons (.mk rfl) .nil)) rfl ?_
 refine St.asg ?_
 refine St.nil (St.then_normal (St.seq (St.rg ?_)))
 refine St.mv ?_
 refine St.calld (quantified_spec [97, 108, 108] [105, 102] false (by decide) (by decide)) cb31 (.cons (.mk rfl) (.cons (.mk rfl) (.cons (.mk rfl) .nil))) rfl ?_
 rintro v97 _ rfl
 refine St.app1 ?_
 refine St.bsl rfl (.cons (.mk rfl) (.cons (.mk rfl) (.cons (.mk rfl) .nil))) Tryd.underlying57 sz3 zv3 rfl rfl (by simp [Value.cells]) rfl rfl (fun b98 => ?_)
 refine St.publish (.slice (some ⟨b98, 0, none⟩) 3 3) intR [10, 4, 1] rfl rfl (wfI (by decide)) ?_
 refine St.bsl rfl (.cons (.mk rfl) .nil) Tryd.underlying57 sz3 zv3 rfl rfl (by simp [Value.cells]) rfl rfl (fun b99 => ?_)
 refine St.publish (.slice (some ⟨b99, 0, none⟩) 1 1) intR [4] rfl rfl (wfI (by decide)) ?_
 refine St.bsl rfl (.cons (.mk rfl) (.cons (.mk rfl) .nil)) Tryd.underlying40 sz57 zv57 rfl rfl (by simp [Value.cells]) rfl rfl (fun b100 => ?_)
 refine St.publish (.slice (some ⟨b100, 0, none⟩) 2 2) valR [⟨(.slice (some ⟨b98, 0, none⟩) 3 3), rfl⟩, ⟨(.slice (some ⟨b99, 0, none⟩) 1 1), rfl⟩] (show _ = rows valR [⟨(.slice (some ⟨b98, 0, none⟩) 3 3), rfl⟩, ⟨(.slice (some ⟨b99, 0, none⟩) 1 1), rfl⟩] by simp only [List.flatMap_cons, List.flatMap_nil, Value.cells]; rfl) rfl (fun _ _ => trivial) ?_
 refine nsl_of intR (.slice (some ⟨b100, 0, none⟩) 2 2) [⟨(.slice (some ⟨b98, 0, none⟩) 3 3), rfl⟩, ⟨(.slice (some ⟨b99, 0, none⟩) 1 1), rfl⟩] [[10, 4, 1], [4]] [sl intR (.slice (some ⟨b98, 0, none⟩) 3 3) [10, 4, 1], sl intR (.slice (some ⟨b99, 0, none⟩) 1 1) [4]] rfl rfl ?_
 refine St.toNsl (Rr := intR) (xs := [[10, 4, 1], [4]]) (.slice (some ⟨b100, 0, none⟩) 2 2) rfl ?_
 refine St.callc (add_spec b5 tv.1 (.slice (some ⟨b23, 0, none⟩) 5 5) rv (.slice none 0 0) (.slice none 0 0) X0 [101, 118, 101, 114, 121] 1 v97 (.slice (some ⟨b100, 0, none⟩) 2 2) (quant0 [97, 108, 108] [105, 102] false) [[10, 4, 1], [4]] (by decide) (by unfold i64ok; decide) hX0o (by omega) hX0w (by decide) (by decide)) cb30 (.mk rfl) (.cons (.mk rfl) (.cons (.mk rfl) (.cons (.mk rfl) (.cons (.mk rfl) .nil)))) rfl ?_
 rintro v101 _ ⟨w1, x1, rfl, hX1o, hx1E, hx1w, rfl⟩
 refine St.app3 ?_
 obtain ⟨X1, hX1⟩ : ∃ X : List LexD, X = X0 ++ [x1] := ⟨_, rfl⟩
 rw [← hX1]
 have hX1w : ∀ x ∈ X1, lexR.wf x := by rw [hX1]; exact fun x hx => (List.mem_append.1 hx).elim (hX0w x) fun q => by rw [List.mem_singleton.1 q]; exact hx1w
 have hX1E : X1.map lxE = smLexes.take 1 := by rw [hX1, List.map_append, hX0E, List.map_cons, List.map_nil, hx1E]; rfl
 have hX1l : X1.length = 1 := by rw [hX1, List.length_append, hX0l]; rfl
 refine St.subl [blk b5 (.cells [tv.1, (.slice (some ⟨b23, 0, none⟩) 5 5), rv, w1, (.slice none 0 0)].toArray 32 (0, 0)), row w1 82 9 (X1).length (rows lexR (X1)), dat (dall lexD X1), dat (sl ruleR rv rls), dat (dall ruleD rls), dat (sl tyR tv.1 ts), dat (dall tyD ts), dat (sl featR (.slice (some ⟨b23, 0, none⟩) 5 5) smFeats), blk b4 (.cells [sv xr.base, xr.av.1].toArray 77 (0, 0)), dat (isSim (fn0 (.mk [101] []) (fn0 (.mk [101] []) (.mk [116] []))) (simV xr)), blk b3 (.cells [sv xp.base, xp.av.1].toArray 77 (0, 0)), dat (isSim (fn0 (.mk [101] []) (.mk [116] [])) (simV xp)), blk b2 (.cells [sv xt.base, xt.av.1].toArray 77 (0, 0)), blk b1 (.cells [sv xe.base, xe.av.1].toArray 77 (0, 0)), dat (isSim (.mk [116] []) (simV xt)), dat (isSim (.mk [101] []) (simV xe)), blk b0 (.cells [(.slice none 0 0), (.slice none 0 0), (.slice none 0 0), (.slice none 0 0), (.slice none 0 0)].toArray 32 (0, 0))] (by repeat (first | exact List.Sublist.slnil | with_reducible refine List.Sublist.cons_cons _ ?_ | refine List.Sublist.cons _ ?_)) ?_
 refine St.nil (St.then_normal (St.seq (St.rg ?_)))
 refine St.mv ?_
 refine St.calld (quantified_spec [115, 111, 109, 101] [97, 110, 100] false (by decide) (by decide)) cb31 (.cons (.mk rfl) (.cons (.mk rfl) (.cons (.mk rfl) .nil))) rfl ?_
 rintro v103 _ rfl
 refine St.app1 ?_
 refine St.bsl rfl (.cons (.mk rfl) (.cons (.mk rfl) (.cons (.mk rfl) .nil))) Tryd.underlying57 sz3 zv3 rfl rfl (by simp [Value.cells]) rfl rfl (fun b104 => ?_)
 refine St.publish (.slice (some ⟨b104, 0, none⟩) 3 3) intR [10, 4, 1] rfl rfl (wfI (by decide)) ?_
 refine St.bsl rfl (.cons (.mk rfl) .nil) Tryd.underlying57 sz3 zv3 rfl rfl (by simp [Value.cells]) rfl rfl (fun b105 => ?_)
 refine St.publish (.slice (some ⟨b105, 0, none⟩) 1 1) intR [4] rfl rfl (wfI (by decide)) ?_
 refine St.bsl rfl (.cons (.mk rfl) (.cons (.mk rfl) .nil)) Tryd.underlying40 sz57 zv57 rfl rfl (by simp [Value.cells]) rfl rfl (fun b106 => ?_)
 refine St.publish (.slice (some ⟨b106, 0, none⟩) 2 2) valR [⟨(.slice (some ⟨b104, 0, none⟩) 3 3), rfl⟩, ⟨(.slice (some ⟨b105, 0, none⟩) 1 1), rfl⟩] (show _ = rows valR [⟨(.slice (some ⟨b104, 0, none⟩) 3 3), rfl⟩, ⟨(.slice (some ⟨b105, 0, none⟩) 1 1), rfl⟩] by simp only [List.flatMap_cons, List.flatMap_nil, Value.cells]; rfl) rfl (fun _ _ => trivial) ?_
 refine nsl_of intR (.slice (some ⟨b106, 0, none⟩) 2 2) [⟨(.slice (some ⟨b104, 0, none⟩) 3 3), rfl⟩, ⟨(.slice (some ⟨b105, 0, none⟩) 1 1), rfl⟩] [[10, 4, 1], [4]] [sl intR (.slice (some ⟨b104, 0, none⟩) 3 3) [10, 4, 1], sl intR (.slice (some ⟨b105, 0, none⟩) 1 1) [4]] rfl rfl ?_
 refine St.toNsl (Rr := intR) (xs := [[10, 4, 1], [4]]) (.slice (some ⟨b106, 0, none⟩) 2 2) rfl ?_
 refine St.callc (add_spec b5 tv.1 (.slice (some ⟨b23, 0, none⟩) 5 5) rv (.slice none 0 0) w1 X1 [97] 0 v103 (.slice (some ⟨b106, 0, none⟩) 2 2) (quant0 [115, 111, 109, 101] [97, 110, 100] false) [[10, 4, 1], [4]] (by decide) (by unfold i64ok; decide) hX1o (by omega) hX1w (by decide) (by decide)) cb30 (.mk rfl) (.cons (.mk rfl) (.cons (.mk rfl) (.cons (.mk rfl) (.cons (.mk rfl) .nil)))) rfl ?_
 rintro v107 _ ⟨w2, x2, rfl, hX2o, hx2E, hx2w, rfl⟩
 refine St.app3 ?_
 obtain ⟨X2, hX2⟩ : ∃ X : List LexD, X = X1 ++ [x2] := ⟨_, rfl⟩
 rw [← hX2]
 have hX2w : ∀ x ∈ X2, lexR.wf x := by rw [hX2]; exact fun x hx => (List.mem_append.1 hx).elim (hX1w x) fun q => by rw [List.mem_singleton.1 q]; exact hx2w
 have hX2E : X2.map lxE = smLexes.take 2 := by rw [hX2, List.map_append, hX1E, List.map_cons, List.map_nil, hx2E]; rfl
 have hX2l : X2.length = 2 := by rw [hX2, List.length_append, hX1l]; rfl
 refine St.subl [blk b5 (.cells [tv.1, (.slice (some ⟨b23, 0, none⟩) 5 5), rv, w2, (.slice none 0 0)].toArray 32 (0, 0)), row w2 82 9 (X2).length (rows lexR (X2)), dat (dall lexD X2), dat (sl ruleR rv rls), dat (dall ruleD rls), dat (sl tyR tv.1 ts), dat (dall tyD ts), dat (sl featR (.slice (some ⟨b23, 0, none⟩) 5 5) smFeats), blk b4 (.cells [sv xr.base, xr.av.1].toArray 77 (0, 0)), dat (isSim (fn0 (.mk [101] []) (fn0 (.mk [101] []) (.mk [116] []))) (simV xr)), blk b3 (.cells [sv xp.base, xp.av.1].toArray 77 (0, 0)), dat (isSim (fn0 (.mk [101] []) (.mk [116] [])) (simV xp)), blk b2 (.cells [sv xt.base, xt.av.1].toArray 77 (0, 0)), blk b1 (.cells [sv xe.base, xe.av.1].toArray 77 (0, 0)), dat (isSim (.mk [116] []) (simV xt)), dat (isSim (.mk [101] []) (simV xe)), blk b0 (.cells [(.slice none 0 0), (.slice none 0 0), (.slice none 0 0), (.slice none 0 0), (.slice none 0 0)].toArray 32 (0, 0))] (by repeat (first | exact List.Sublist.slnil | with_reducible refine List.Sublist.cons_cons _ ?_ | refine List.Sublist.cons _ ?_)) ?_
 refine St.nil (St.then_normal (St.seq (St.rg ?_)))
 refine St.mv ?_
 refine St.calld (quantified_spec [115, 111, 109, 101] [97, 110, 100] true (by decide) (by decide)) cb31 (.cons (.mk rfl) (.cons (.mk rfl) (.cons (.mk rfl) .nil))) rfl ?_
 rintro v109 _ rfl
 refine St.app1 ?_
 refine St.bsl rfl (.cons (.mk rfl) .nil) Tryd.underlying57 sz3 zv3 rfl rfl (by simp [Value.cells]) rfl rfl (fun b110 => ?_)
 refine St.publish (.slice (some ⟨b110, 0, none⟩) 1 1) intR [10] rfl rfl (wfI (by decide)) ?_
 refine St.bsl rfl (.cons (.mk rfl) .nil) Tryd.underlying40 sz57 zv57 rfl rfl (by simp [Value.cells]) rfl rfl (fun b111 => ?_)
 refine St.publish (.slice (some ⟨b111, 0, none⟩) 1 1) valR [⟨(.slice (some ⟨b110, 0, none⟩) 1 1), rfl⟩] (show _ = rows valR [⟨(.slice (some ⟨b110, 0, none⟩) 1 1), rfl⟩] by simp only [List.flatMap_cons, List.flatMap_nil, Value.cells]; rfl) rfl (fun _ _ => trivial) ?_
 refine nsl_of intR (.slice (some ⟨b111, 0, none⟩) 1 1) [⟨(.slice (some ⟨b110, 0, none⟩) 1 1), rfl⟩] [[10]] [sl intR (.slice (some ⟨b110, 0, none⟩) 1 1) [10]] rfl rfl ?_
 refine St.toNsl (Rr := intR) (xs := [[10]]) (.slice (some ⟨b111, 0, none⟩) 1 1) rfl ?_
 refine St.callc (add_spec b5 tv.1 (.slice (some ⟨b23, 0, none⟩) 5 5) rv (.slice none 0 0) w2 X2 [110, 111] 2 v109 (.slice (some ⟨b111, 0, none⟩) 1 1) (quant0 [115, 111, 109, 101] [97, 110, 100] true) [[10]] (by decide) (by unfold i64ok; decide) hX2o (by omega) hX2w (by decide) (by decide)) cb30 (.mk rfl) (.cons (.mk rfl) (.cons (.mk rfl) (.cons (.mk rfl) (.cons (.mk rfl) .nil)))) rfl ?_
 rintro v112 _ ⟨w3, x3, rfl, hX3o, hx3E, hx3w, rfl⟩
 refine St.app3 ?_
 obtain ⟨X3, hX3⟩ : ∃ X : List LexD, X = X2 ++ [x3] := ⟨_, rfl⟩
 rw [← hX3]
 have hX3w : ∀ x ∈ X3, lexR.wf x := by rw [hX3]; exact fun x hx => (List.mem_append.1 hx).elim (hX2w x) fun q => by rw [List.mem_singleton.1 q]; exact hx3w
 have hX3E : X3.map lxE = smLexes.take 3 := by rw [hX3, List.map_append, hX2E, List.map_cons, List.map_nil, hx3E]; rfl
 have hX3l : X3.length = 3 := by rw [hX3, List.length_append, hX2l]; rfl
 refine St.subl [blk b5 (.cells [tv.1, (.slice (some ⟨b23, 0, none⟩) 5 5), rv, w3, (.slice none 0 0)].toArray 32 (0, 0)), row w3 82 9 (X3).length (rows lexR (X3)), dat (dall lexD X3), dat (sl ruleR rv rls), dat (dall ruleD rls), dat (sl tyR tv.1 ts), dat (dall tyD ts), dat (sl featR (.slice (some ⟨b23, 0, none⟩) 5 5) smFeats), blk b4 (.cells [sv xr.base, xr.av.1].toArray 77 (0, 0)), dat (isSim (fn0 (.mk [101] []) (fn0 (.mk [101] []) (.mk [116] []))) (simV xr)), blk b3 (.cells [sv xp.base, xp.av.1].toArray 77 (0, 0)), dat (isSim (fn0 (.mk [101] []) (.mk [116] [])) (simV xp)), blk b2 (.cells [sv xt.base, xt.av.1].toArray 77 (0, 0)), blk b1 (.cells [sv xe.base, xe.av.1].toArray 77 (0, 0)), dat (isSim (.mk [116] []) (simV xt)), dat (isSim (.mk [101] []) (simV xe)), blk b0 (.cells [(.slice none 0 0), (.slice none 0 0), (.slice none 0 0), (.slice none 0 0), (.slice none 0 0)].toArray 32 (0, 0))] (by repeat (first | exact List.Sublist.slnil | with_reducible refine List.Sublist.cons_cons _ ?_ | refine List.Sublist.cons _ ?_)) ?_
 refine St.nil (St.then_normal (St.seq (St.rg ?_)))
 refine St.mv ?_
 refine St.ev _ (Ev.ldbA (.mk rfl) Tryd.underlying77 trivial (by exact sz77)) rfl ?_
 refine St.calld (con_spec [100, 111, 103] (by decide) (simV xp) (fn0 (.mk [101] []) (.mk [116] []))) cb32 (.cons (.mk rfl) (.cons (.mk rfl) .nil)) rfl ?_
 rintro v115 _ rfl
 refine St.app1 ?_
 refine St.bsl rfl (.cons (.mk rfl) (.cons (.mk rfl) (.cons (.mk rfl) .nil))) Tryd.underlying57 sz3 zv3 rfl rfl (by simp [Value.cells]) rfl rfl (fun b116 => ?_)
 refine St.publish (.slice (some ⟨b116, 0, none⟩) 3 3) intR [9, 4, 1] rfl rfl (wfI (by decide)) ?_
 refine St.bsl rfl (.cons (.mk rfl) .nil) Tryd.underlying57 sz3 zv3 rfl rfl (by simp [Value.cells]) rfl rfl (fun b117 => ?_)
 refine St.publish (.slice (some ⟨b117, 0, none⟩) 1 1) intR [4] rfl rfl (wfI (by decide)) ?_
 refine St.bsl rfl (.cons (.mk rfl) (.cons (.mk rfl) .nil)) Tryd.underlying40 sz57 zv57 rfl rfl (by simp [Value.cells]) rfl rfl (fun b118 => ?_)
 refine St.publish (.slice (some ⟨b118, 0, none⟩) 2 2) valR [⟨(.slice (some ⟨b116, 0, none⟩) 3 3), rfl⟩, ⟨(.slice (some ⟨b117, 0, none⟩) 1 1), rfl⟩] (show _ = rows valR [⟨(.slice (some ⟨b116, 0, none⟩) 3 3), rfl⟩, ⟨(.slice (some ⟨b117, 0, none⟩) 1 1), rfl⟩] by simp only [List.flatMap_cons, List.flatMap_nil, Value.cells]; rfl) rfl (fun _ _ => trivial) ?_
 refine nsl_of intR (.slice (some ⟨b118, 0, none⟩) 2 2) [⟨(.slice (some ⟨b116, 0, none⟩) 3 3), rfl⟩, ⟨(.slice (some ⟨b117, 0, none⟩) 1 1), rfl⟩] [[9, 4, 1], [4]] [sl intR (.slice (some ⟨b116, 0, none⟩) 3 3) [9, 4, 1], sl intR (.slice (some ⟨b117, 0, none⟩) 1 1) [4]] rfl rfl ?_
 refine St.toNsl (Rr := intR) (xs := [[9, 4, 1], [4]]) (.slice (some ⟨b118, 0, none⟩) 2 2) rfl ?_
 refine St.callc (add_spec b5 tv.1 (.slice (some ⟨b23, 0, none⟩) 5 5) rv (.slice none 0 0) w3 X3 [100, 111, 103] 0 v115 (.slice (some ⟨b118, 0, none⟩) 2 2) (con0 [100, 111, 103] (fn0 (.mk [101] []) (.mk [116] []))) [[9, 4, 1], [4]] (by decide) (by unfold i64ok; decide) hX3o (by omega) hX3w (by decide) (by decide)) cb30 (.mk rfl) (.cons (.mk rfl) (.cons (.mk rfl) (.cons (.mk rfl) (.cons (.mk rfl) .nil)))) rfl ?_
 rintro v119 _ ⟨w4, x4, rfl, hX4o, hx4E, hx4w, rfl⟩
 refine St.app3 ?_
 obtain ⟨X4, hX4⟩ : ∃ X : List LexD, X = X3 ++ [x4] := ⟨_, rfl⟩
 rw [← hX4]
 have hX4w : ∀ x ∈ X4, lexR.wf x := by rw [hX4]; exact fun x hx => (List.mem_append.1 hx).elim (hX3w x) fun q => by rw [List.mem_singleton.1 q]; exact hx4w
 have hX4E : X4.map lxE = smLexes.take 4 := by rw [hX4, List.map_append, hX3E, List.map_cons, List.map_nil, hx4E]; rfl
 have hX4l : X4.length = 4 := by rw [hX4, List.length_append, hX3l]; rfl
 refine St.subl [blk b5 (.cells [tv.1, (.slice (some ⟨b23, 0, none⟩) 5 5), rv, w4, (.slice none 0 0)].toArray 32 (0, 0)), row w4 82 9 (X4).length (rows lexR (X4)), dat (dall lexD X4), dat (sl ruleR rv rls), dat (dall ruleD rls), dat (sl tyR tv.1 ts), dat (dall tyD ts), dat (sl featR (.slice (some ⟨b23, 0, none⟩) 5 5) smFeats), blk b4 (.cells [sv xr.base, xr.av.1].toArray 77 (0, 0)), dat (isSim (fn0 (.mk [101] []) (fn0 (.mk [101] []) (.mk [116] []))) (simV xr)), blk b3 (.cells [sv xp.base, xp.av.1].toArray 77 (0, 0)), dat (isSim (fn0 (.mk [101] []) (.mk [116] [])) (simV xp)), blk b2 (.cells [sv xt.base, xt.av.1].toArray 77 (0, 0)), blk b1 (.cells [sv xe.base, xe.av.1].toArray 77 (0, 0)), dat (isSim (.mk [116] []) (simV xt)), dat (isSim (.mk [101] []) (simV xe)), blk b0 (.cells [(.slice none 0 0), (.slice none 0 0), (.slice none 0 0), (.slice none 0 0), (.slice none 0 0)].toArray 32 (0, 0))] (by repeat (first | exact List.Sublist.slnil | with_reducible refine List.Sublist.cons_cons _ ?_ | refine List.Sublist.cons _ ?_)) ?_
 refine St.nil (St.then_normal (St.seq (St.rg ?_)))
 refine St.mv ?_
 refine St.ev _ (Ev.ldbA (.mk rfl) Tryd.underlying77 trivial (by exact sz77)) rfl ?_
 refine St.calld (con_spec [100, 111, 103] (by decide) (simV xp) (fn0 (.mk [101] []) (.mk [116] []))) cb32 (.cons (.mk rfl) (.cons (.mk rfl) .nil)) rfl ?_
 rintro v122 _ rfl
 refine St.app1 ?_
 refine St.bsl rfl (.cons (.mk rfl) (.cons (.mk rfl) (.cons (.mk rfl) .nil))) Tryd.underlying57 sz3 zv3 rfl rfl (by simp [Value.cells]) rfl rfl (fun b123 => ?_)
 refine St.publish (.slice (some ⟨b123, 0, none⟩) 3 3) intR [9, 4, 1] rfl rfl (wfI (by decide)) ?_
 refine St.bsl rfl (.cons (.mk rfl) .nil) Tryd.underlying57 sz3 zv3 rfl rfl (by simp [Value.cells]) rfl rfl (fun b124 => ?_)
 refine St.publish (.slice (some ⟨b124, 0, none⟩) 1 1) intR [5] rfl rfl (wfI (by decide)) ?_
 refine St.bsl rfl (.cons (.mk rfl) (.cons (.mk rfl) .nil)) Tryd.underlying40 sz57 zv57 rfl rfl (by simp [Value.cells]) rfl rfl (fun b125 => ?_)
 refine St.publish (.slice (some ⟨b125, 0, none⟩) 2 2) valR [⟨(.slice (some ⟨b123, 0, none⟩) 3 3), rfl⟩, ⟨(.slice (some ⟨b124, 0, none⟩) 1 1), rfl⟩] (show _ = rows valR [⟨(.slice (some ⟨b123, 0, none⟩) 3 3), rfl⟩, ⟨(.slice (some ⟨b124, 0, none⟩) 1 1), rfl⟩] by simp only [List.flatMap_cons, List.flatMap_nil, Value.cells]; rfl) rfl (fun _ _ => trivial) ?_
 refine nsl_of intR (.slice (some ⟨b125, 0, none⟩) 2 2) [⟨(.slice (some ⟨b123, 0, none⟩) 3 3), rfl⟩, ⟨(.slice (some ⟨b124, 0, none⟩) 1 1), rfl⟩] [[9, 4, 1], [5]] [sl intR (.slice (some ⟨b123, 0, none⟩) 3 3) [9, 4, 1], sl intR (.slice (some ⟨b124, 0, none⟩) 1 1) [5]] rfl rfl ?_
 refine St.toNsl (Rr := intR) (xs := [[9, 4, 1], [5]]) (.slice (some ⟨b125, 0, none⟩) 2 2) rfl ?_
 refine St.callc (add_spec b5 tv.1 (.slice (some ⟨b23, 0, none⟩) 5 5) rv (.slice none 0 0) w4 X4 [100, 111, 103, 115] 0 v122 (.slice (some ⟨b125, 0, none⟩) 2 2) (con0 [100, 111, 103] (fn0 (.mk [101] []) (.mk [116] []))) [[9, 4, 1], [5]] (by decide) (by unfold i64ok; decide) hX4o (by omega) hX4w (by decide) (by decide)) cb30 (.mk rfl) (.cons (.mk rfl) (.cons (.mk rfl) (.cons (.mk rfl) (.cons (.mk rfl) .nil)))) rfl ?_
 rintro v126 _ ⟨w5, x5, rfl, hX5o, hx5E, hx5w, rfl⟩
 refine St.app3 ?_
 obtain ⟨X5, hX5⟩ : ∃ X : List LexD, X = X4 ++ [x5] := ⟨_, rfl⟩
 rw [← hX5]
 have hX5w : ∀ x ∈ X5, lexR.wf x := by rw [hX5]; exact fun x hx => (List.mem_append.1 hx).elim (hX4w x) fun q => by rw [List.mem_singleton.1 q]; exact hx5w
 have hX5E : X5.map lxE = smLexes.take 5 := by rw [hX5, List.map_append, hX4E, List.map_cons, List.map_nil, hx5E]; rfl
 have hX5l : X5.length = 5 := by rw [hX5, List.length_append, hX4l]; rfl
 refine St.subl [blk b5 (.cells [tv.1, (.slice (some ⟨b23, 0, none⟩) 5 5), rv, w5, (.slice none 0 0)].toArray 32 (0, 0)), row w5 82 9 (X5).length (rows lexR (X5)), dat (dall lexD X5), dat (sl ruleR rv rls), dat (dall ruleD rls), dat (sl tyR tv.1 ts), dat (dall tyD ts), dat (sl featR (.slice (some ⟨b23, 0, none⟩) 5 5) smFeats), blk b4 (.cells [sv xr.base, xr.av.1].toArray 77 (0, 0)), dat (isSim (fn0 (.mk [101] []) (fn0 (.mk [101] []) (.mk [116] []))) (simV xr)), blk b3 (.cells [sv xp.base, xp.av.1].toArray 77 (0, 0)), dat (isSim (fn0 (.mk [101] []) (.mk [116] [])) (simV xp)), blk b2 (.cells [sv xt.base, xt.av.1].toArray 77 (0, 0)), blk b1 (.cells [sv xe.base, xe.av.1].toArray 77 (0, 0)), dat (isSim (.mk [116] []) (simV xt)), dat (isSim (.mk [101] []) (simV xe)), blk b0 (.cells [(.slice none 0 0), (.slice none 0 0), (.slice none 0 0), (.slice none 0 0), (.slice none 0 0)].toArray 32 (0, 0))] (by repeat (first | exact List.Sublist.slnil | with_reducible refine List.Sublist.cons_cons _ ?_ | refine List.Sublist.cons _ ?_)) ?_
 refine St.nil (St.then_normal (St.seq (St.rg ?_)))
 refine St.mv ?_
 refine St.ev _ (Ev.ldbA (.mk rfl) Tryd.underlying77 trivial (by exact sz77)) rfl ?_
 refine St.calld (con_spec [99, 97, 116] (by decide) (simV xp) (fn0 (.mk [101] []) (.mk [116] []))) cb32 (.cons (.mk rfl) (.cons (.mk rfl) .nil)) rfl ?_
 rintro v129 _ rfl
 refine St.app1 ?_
 refine St.bsl rfl (.cons (.mk rfl) (.cons (.mk rfl) (.cons (.mk rfl) .nil))) Tryd.underlying57 sz3 zv3 rfl rfl (by simp [Value.cells]) rfl rfl (fun b130 => ?_)
 refine St.publish (.slice (some ⟨b130, 0, none⟩) 3 3) intR [9, 4, 1] rfl rfl (wfI (by decide)) ?_
 refine St.bsl rfl (.cons (.mk rfl) .nil) Tryd.underlying57 sz3 zv3 rfl rfl (by simp [Value.cells]) rfl rfl (fun b131 => ?_)
 refine St.publish (.slice (some ⟨b131, 0, none⟩) 1 1) intR [4] rfl rfl (wfI (by decide)) ?_
 refine St.bsl rfl (.cons (.mk rfl) (.cons (.mk rfl) .nil)) Tryd.underlying40 sz57 zv57 rfl rfl (by simp [Value.cells]) rfl rfl (fun b132 => ?_)
 refine St.publish (.slice (some ⟨b132, 0, none⟩) 2 2) valR [⟨(.slice (some ⟨b130, 0, none⟩) 3 3), rfl⟩, ⟨(.slice (some ⟨b131, 0, none⟩) 1 1), rfl⟩] (show _ = rows valR [⟨(.slice (some ⟨b130, 0, none⟩) 3 3), rfl⟩, ⟨(.slice (some ⟨b131, 0, none⟩) 1 1), rfl⟩] by simp only [List.flatMap_cons, List.flatMap_nil, Value.cells]; rfl) rfl (fun _ _ => trivial) ?_
 refine nsl_of intR (.slice (some ⟨b132, 0, none⟩) 2 2) [⟨(.slice (some ⟨b130, 0, none⟩) 3 3), rfl⟩, ⟨(.slice (some ⟨b131, 0, none⟩) 1 1), rfl⟩] [[9, 4, 1], [4]] [sl intR (.slice (some ⟨b130, 0, none⟩) 3 3) [9, 4, 1], sl intR (.slice (some ⟨b131, 0, none⟩) 1 1) [4]] rfl rfl ?_
 refine St.toNsl (Rr := intR) (xs := [[9, 4, 1], [4]]) (.slice (some ⟨b132, 0, none⟩) 2 2) rfl ?_
 refine St.callc (add_spec b5 tv.1 (.slice (some ⟨b23, 0, none⟩) 5 5) rv (.slice none 0 0) w5 X5 [99, 97, 116] 0 v129 (.slice (some ⟨b132, 0, none⟩) 2 2) (con0 [99, 97, 116] (fn0 (.mk [101] []) (.mk [116] []))) [[9, 4, 1], [4]] (by decide) (by unfold i64ok; decide) hX5o (by omega) hX5w (by decide) (by decide)) cb30 (.mk rfl) (.cons (.mk rfl) (.cons (.mk rfl) (.cons (.mk rfl) (.cons (.mk rfl) .nil)))) rfl ?_
 rintro v133 _ ⟨w6, x6, rfl, hX6o, hx6E, hx6w, rfl⟩
 refine St.app3 ?_
 obtain ⟨X6, hX6⟩ : ∃ X : List LexD, X = X5 ++ [x6] := ⟨_, rfl⟩
 rw [← hX6]
 have hX6w : ∀ x ∈ X6, lexR.wf x := by rw [hX6]; exact fun x hx => (List.mem_append.1 hx).elim (hX5w x) fun q => by rw [List.mem_singleton.1 q]; exact hx6w
 have hX6E : X6.map lxE = smLexes.take 6 := by rw [hX6, List.map_append, hX5E, List.map_cons, List.map_nil, hx6E]; rfl
 have hX6l : X6.length = 6 := by rw [hX6, List.length_append, hX5l]; rfl
 refine St.subl [blk b5 (.cells [tv.1, (.slice (some ⟨b23, 0, none⟩) 5 5), rv, w6, (.slice none 0 0)].toArray 32 (0, 0)), row w6 82 9 (X6).length (rows lexR (X6)), dat (dall lexD X6), dat (sl ruleR rv rls), dat (dall ruleD rls), dat (sl tyR tv.1 ts), dat (dall tyD ts), dat (sl featR (.slice (some ⟨b23, 0, none⟩) 5 5) smFeats), blk b4 (.cells [sv xr.base, xr.av.1].toArray 77 (0, 0)), dat (isSim (fn0 (.mk [101] []) (fn0 (.mk [101] []) (.mk [116] []))) (simV xr)), blk b3 (.cells [sv xp.base, xp.av.1].toArray 77 (0, 0)), dat (isSim (fn0 (.mk [101] []) (.mk [116] [])) (simV xp)), blk b2 (.cells [sv xt.base, xt.av.1].toArray 77 (0, 0)), blk b1 (.cells [sv xe.base, xe.av.1].toArray 77 (0, 0)), dat (isSim (.mk [116] []) (simV xt)), dat (isSim (.mk [101] []) (simV xe)), blk b0 (.cells [(.slice none 0 0), (.slice none 0 0), (.slice none 0 0), (.slice none 0 0), (.slice none 0 0)].toArray 32 (0, 0))] (by repeat (first | exact List.Sublist.slnil | with_reducible refine List.Sublist.cons_cons _ ?_ | refine List.Sublist.cons _ ?_)) ?_
 refine St.nil (St.then_normal (St.seq (St.rg ?_)))
 refine St.mv ?_
 refine St.ev _ (Ev.ldbA (.mk rfl) Tryd.underlying77 trivial (by exact sz77)) rfl ?_
 refine St.calld (con_spec [99, 97, 116] (by decide) (simV xp) (fn0 (.mk [101] []) (.mk [116] []))) cb32 (.cons (.mk rfl) (.cons (.mk rfl) .nil)) rfl ?_
 rintro v136 _ rfl
 refine St.app1 ?_
 refine St.bsl rfl (.cons (.mk rfl) (.cons (.mk rfl) (.cons (.mk rfl) .nil))) Tryd.underlying57 sz3 zv3 rfl rfl (by simp [Value.cells]) rfl rfl (fun b137 => ?_)
 refine St.publish (.slice (some ⟨b137, 0, none⟩) 3 3) intR [9, 4, 1] rfl rfl (wfI (by decide)) ?_
 refine St.bsl rfl (.cons (.mk rfl) .nil) Tryd.underlying57 sz3 zv3 rfl rfl (by simp [Value.cells]) rfl rfl (fun b138 => ?_)
 refine St.publish (.slice (some ⟨b138, 0, none⟩) 1 1) intR [5] rfl rfl (wfI (by decide)) ?_
 refine St.bsl rfl (.cons (.mk rfl) (.cons (.mk rfl) .nil)) Tryd.underlying40 sz57 zv57 rfl rfl (by simp [Value.cells]) rfl rfl (fun b139 => ?_)
 refine St.publish (.slice (some ⟨b139, 0, none⟩) 2 2) valR [⟨(.slice (some ⟨b137, 0, none⟩) 3 3), rfl⟩, ⟨(.slice (some ⟨b138, 0, none⟩) 1 1), rfl⟩] (show _ = rows valR [⟨(.slice (some ⟨b137, 0, none⟩) 3 3), rfl⟩, ⟨(.slice (some ⟨b138, 0, none⟩) 1 1), rfl⟩] by simp only [List.flatMap_cons, List.flatMap_nil, Value.cells]; rfl) rfl (fun _ _ => trivial) ?_
 refine nsl_of intR (.slice (some ⟨b139, 0, none⟩) 2 2) [⟨(.slice (some ⟨b137, 0, none⟩) 3 3), rfl⟩, ⟨(.slice (some ⟨b138, 0, none⟩) 1 1), rfl⟩] [[9, 4, 1], [5]] [sl intR (.slice (some ⟨b137, 0, none⟩) 3 3) [9, 4, 1], sl intR (.slice (some ⟨b138, 0, none⟩) 1 1) [5]] rfl rfl ?_
 refine St.toNsl (Rr := intR) (xs := [[9, 4, 1], [5]]) (.slice (some ⟨b139, 0, none⟩) 2 2) rfl ?_
 refine St.callc (add_spec b5 tv.1 (.slice (some ⟨b23, 0, none⟩) 5 5) rv (.slice none 0 0) w6 X6 [99, 97, 116, 115] 0 v136 (.slice (some ⟨b139, 0, none⟩) 2 2) (con0 [99, 97, 116] (fn0 (.mk [101] []) (.mk [116] []))) [[9, 4, 1], [5]] (by decide) (by unfold i64ok; decide) hX6o (by omega) hX6w (by decide) (by decide)) cb30 (.mk rfl) (.cons (.mk rfl) (.cons (.mk rfl) (.cons (.mk rfl) (.cons (.mk rfl) .nil)))) rfl ?_
 rintro v140 _ ⟨w7, x7, rfl, hX7o, hx7E, hx7w, rfl⟩
 refine St.app3 ?_
 obtain ⟨X7, hX7⟩ : ∃ X : List LexD, X = X6 ++ [x7] := ⟨_, rfl⟩
 rw [← hX7]
 have hX7w : ∀ x ∈ X7, lexR.wf x := by rw [hX7]; exact fun x hx => (List.mem_append.1 hx).elim (hX6w x) fun q => by rw [List.mem_singleton.1 q]; exact hx7w
 have hX7E : X7.map lxE = smLexes.take 7 := by rw [hX7, List.map_append, hX6E, List.map_cons, List.map_nil, hx7E]; rfl
 have hX7l : X7.length = 7 := by rw [hX7, List.length_append, hX6l]; rfl
 refine St.subl [blk b5 (.cells [tv.1, (.slice (some ⟨b23, 0, none⟩) 5 5), rv, w7, (.slice none 0 0)].toArray 32 (0, 0)), row w7 82 9 (X7).length (rows lexR (X7)), dat (dall lexD X7), dat (sl ruleR rv rls), dat (dall ruleD rls), dat (sl tyR tv.1 ts), dat (dall tyD ts), dat (sl featR (.slice (some ⟨b23, 0, none⟩) 5 5) smFeats), blk b4 (.cells [sv xr.base, xr.av.1].toArray 77 (0, 0)), dat (isSim (fn0 (.mk [101] []) (fn0 (.mk [101] []) (.mk [116] []))) (simV xr)), blk b3 (.cells [sv xp.base, xp.av.1].toArray 77 (0, 0)), dat (isSim (fn0 (.mk [101] []) (.mk [116] [])) (simV xp)), blk b2 (.cells [sv xt.base, xt.av.1].toArray 77 (0, 0)), blk b1 (.cells [sv xe.base, xe.av.1].toArray 77 (0, 0)), dat (isSim (.mk [116] []) (simV xt)), dat (isSim (.mk [101] []) (simV xe)), blk b0 (.cells [(.slice none 0 0), (.slice none 0 0), (.slice none 0 0), (.slice none 0 0), (.slice none 0 0)].toArray 32 (0, 0))] (by repeat (first | exact List.Sublist.slnil | with_reducible refine List.Sublist.cons_cons _ ?_ | refine List.Sublist.cons _ ?_)) ?_
 refine St.nil (St.then_normal (St.seq (St.rg ?_)))
 refine St.mv ?_
 refine St.ev _ (Ev.ldbA (.mk rfl) Tryd.underlying77 trivial (by exact sz77)) rfl ?_
 refine St.calld (con_spec [102, 105, 115, 104] (by decide) (simV xp) (fn0 (.mk [101] []) (.mk [116] []))) cb32 (.cons (.mk rfl) (.cons (.mk rfl) .nil)) rfl ?_
 rintro v143 _ rfl
 refine St.app1 ?_
 refine St.bsl rfl (.cons (.mk rfl) (.cons (.mk rfl) (.cons (.mk rfl) .nil))) Tryd.underlying57 sz3 zv3 rfl rfl (by simp [Value.cells]) rfl rfl (fun b144 => ?_)
 refine St.publish (.slice (some ⟨b144, 0, none⟩) 3 3) intR [9, 4, 1] rfl rfl (wfI (by decide)) ?_
 refine St.bsl rfl (.cons (.mk rfl) .nil) Tryd.underlying57 sz3 zv3 rfl rfl (by simp [Value.cells]) rfl rfl (fun b145 => ?_)
 refine St.publish (.slice (some ⟨b145, 0, none⟩) 1 1) intR [4] rfl rfl (wfI (by decide)) ?_
 refine St.bsl rfl (.cons (.mk rfl) (.cons (.mk rfl) .nil)) Tryd.underlying40 sz57 zv57 rfl rfl (by simp [Value.cells]) rfl rfl (fun b146 => ?_)
 refine St.publish (.slice (some ⟨b146, 0, none⟩) 2 2) valR [⟨(.slice (some ⟨b144, 0, none⟩) 3 3), rfl⟩, ⟨(.slice (some ⟨b145, 0, none⟩) 1 1), rfl⟩] (show _ = rows valR [⟨(.slice (some ⟨b144, 0, none⟩) 3 3), rfl⟩, ⟨(.slice (some ⟨b145, 0, none⟩) 1 1), rfl⟩] by simp only [List.flatMap_cons, List.flatMap_nil, Value.cells]; rfl) rfl (fun _ _ => trivial) ?_
 refine nsl_of intR (.slice (some ⟨b146, 0, none⟩) 2 2) [⟨(.slice (some ⟨b144, 0, none⟩) 3 3), rfl⟩, ⟨(.slice (some ⟨b145, 0, none⟩) 1 1), rfl⟩] [[9, 4, 1], [4]] [sl intR (.slice (some ⟨b144, 0, none⟩) 3 3) [9, 4, 1], sl intR (.slice (some ⟨b145, 0, none⟩) 1 1) [4]] rfl rfl ?_
 refine St.toNsl (Rr := intR) (xs := [[9, 4, 1], [4]]) (.slice (some ⟨b146, 0, none⟩) 2 2) rfl ?_
 refine St.callc (add_spec b5 tv.1 (.slice (some ⟨b23, 0, none⟩) 5 5) rv (.slice none 0 0) w7 X7 [102, 105, 115, 104] 1 v143 (.slice (some ⟨b146, 0, none⟩) 2 2) (con0 [102, 105, 115, 104] (fn0 (.mk [101] []) (.mk [116] []))) [[9, 4, 1], [4]] (by decide) (by unfold i64ok; decide) hX7o (by omega) hX7w (by decide) (by decide)) cb30 (.mk rfl) (.cons (.mk rfl) (.cons (.mk rfl) (.cons (.mk rfl) (.cons (.mk rfl) .nil)))) rfl ?_
 rintro v147 _ ⟨w8, x8, rfl, hX8o, hx8E, hx8w, rfl⟩
 refine St.app3 ?_
 obtain ⟨X8, hX8⟩ : ∃ X : List LexD, X = X7 ++ [x8] := ⟨_, rfl⟩
 rw [← hX8]
 have hX8w : ∀ x ∈ X8, lexR.wf x := by rw [hX8]; exact fun x hx => (List.mem_append.1 hx).elim (hX7w x) fun q => by rw [List.mem_singleton.1 q]; exact hx8w
 have hX8E : X8.map lxE = smLexes.take 8 := by rw [hX8, List.map_append, hX7E, List.map_cons, List.map_nil, hx8E]; rfl
 have hX8l : X8.length = 8 := by rw [hX8, List.length_append, hX7l]; rfl
 refine St.subl [blk b5 (.cells [tv.1, (.slice (some ⟨b23, 0, none⟩) 5 5), rv, w8, (.slice none 0 0)].toArray 32 (0, 0)), row w8 82 9 (X8).length (rows lexR (X8)), dat (dall lexD X8), dat (sl ruleR rv rls), dat (dall ruleD rls), dat (sl tyR tv.1 ts), dat (dall tyD ts), dat (sl featR (.slice (some ⟨b23, 0, none⟩) 5 5) smFeats), blk b4 (.cells [sv xr.base, xr.av.1].toArray 77 (0, 0)), dat (isSim (fn0 (.mk [101] []) (fn0 (.mk [101] []) (.mk [116] []))) (simV xr)), blk b3 (.cells [sv xp.base, xp.av.1].toArray 77 (0, 0)), dat (isSim (fn0 (.mk [101] []) (.mk [116] [])) (simV xp)), blk b2 (.cells [sv xt.base, xt.av.1].toArray 77 (0, 0)), blk b1 (.cells [sv xe.base, xe.av.1].toArray 77 (0, 0)), dat (isSim (.mk [116] []) (simV xt)), dat (isSim (.mk [101] []) (simV xe)), blk b0 (.cells [(.slice none 0 0), (.slice none 0 0), (.slice none 0 0), (.slice none 0 0), (.slice none 0 0)].toArray 32 (0, 0))] (by repeat (first | exact List.Sublist.slnil | with_reducible refine List.Sublist.cons_cons _ ?_ | refine List.Sublist.cons _ ?_)) ?_
 refine St.nil (St.then_normal (St.seq (St.rg ?_)))
 refine St.mv ?_
 refine St.ev _ (Ev.ldbA (.mk rfl) Tryd.underlying77 trivial (by exact sz77)) rfl ?_
 refine St.calld (con_spec [102, 105, 115, 104] (by decide) (simV xp) (fn0 (.mk [101] []) (.mk [116] []))) cb32 (.cons (.mk rfl) (.cons (.mk rfl) .nil)) rfl ?_
 rintro v150 _ rfl
 refine St.app1 ?_
 refine St.bsl rfl (.cons (.mk rfl) (.cons (.mk rfl) (.cons (.mk rfl) .nil))) Tryd.underlying57 sz3 zv3 rfl rfl (by simp [Value.cells]) rfl rfl (fun b151 => ?_)
 refine St.publish (.slice (some ⟨b151, 0, none⟩) 3 3) intR [9, 4, 1] rfl rfl (wfI (by decide)) ?_
 refine St.bsl rfl (.cons (.mk rfl) .nil) Tryd.underlying57 sz3 zv3 rfl rfl (by simp [Value.cells]) rfl rfl (fun b152 => ?_)
 refine St.publish (.slice (some ⟨b152, 0, none⟩) 1 1) intR [5] rfl rfl (wfI (by decide)) ?_
 refine St.bsl rfl (.cons (.mk rfl) (.cons (.mk rfl) .nil)) Tryd.underlying40 sz57 zv57 rfl rfl (by simp [Value.cells]) rfl rfl (fun b153 => ?_)
 refine St.publish (.slice (some ⟨b153, 0, none⟩) 2 2) valR [⟨(.slice (some ⟨b151, 0, none⟩) 3 3), rfl⟩, ⟨(.slice (some ⟨b152, 0, none⟩) 1 1), rfl⟩] (show _ = rows valR [⟨(.slice (some ⟨b151, 0, none⟩) 3 3), rfl⟩, ⟨(.slice (some ⟨b152, 0, none⟩) 1 1), rfl⟩] by simp only [List.flatMap_cons, List.flatMap_nil, Value.cells]; rfl) rfl (fun _ _ => trivial) ?_
 refine nsl_of intR (.slice (some ⟨b153, 0, none⟩) 2 2) [⟨(.slice (some ⟨b151, 0, none⟩) 3 3), rfl⟩, ⟨(.slice (some ⟨b152, 0, none⟩) 1 1), rfl⟩] [[9, 4, 1], [5]] [sl intR (.slice (some ⟨b151, 0, none⟩) 3 3) [9, 4, 1], sl intR (.slice (some ⟨b152, 0, none⟩) 1 1) [5]] rfl rfl ?_
 refine St.toNsl (Rr := intR) (xs := [[9, 4, 1], [5]]) (.slice (some ⟨b153, 0, none⟩) 2 2) rfl ?_
 refine St.callc (add_spec b5 tv.1 (.slice (some ⟨b23, 0, none⟩) 5 5) rv (.slice none 0 0) w8 X8 [102, 105, 115, 104] 2 v150 (.slice (some ⟨b153, 0, none⟩) 2 2) (con0 [102, 105, 115, 104] (fn0 (.mk [101] []) (.mk [116] []))) [[9, 4, 1], [5]] (by decide) (by unfold i64ok; decide) hX8o (by omega) hX8w (by decide) (by decide)) cb30 (.mk rfl) (.cons (.mk rfl) (.cons (.mk rfl) (.cons (.mk rfl) (.cons (.mk rfl) .nil)))) rfl ?_
 rintro v154 _ ⟨w9, x9, rfl, hX9o, hx9E, hx9w, rfl⟩
 refine St.app3 ?_
 obtain ⟨X9, hX9⟩ : ∃ X : List LexD, X = X8 ++ [x9] := ⟨_, rfl⟩
 rw [← hX9]
 have hX9w : ∀ x ∈ X9, lexR.wf x := by rw [hX9]; exact fun x hx => (List.mem_append.1 hx).elim (hX8w x) fun q => by rw [List.mem_singleton.1 q]; exact hx9w
 have hX9E : X9.map lxE = smLexes.take 9 := by rw [hX9, List.map_append, hX8E, List.map_cons, List.map_nil, hx9E]; rfl
 have hX9l : X9.length = 9 := by rw [hX9, List.length_append, hX8l]; rfl
 refine St.subl [blk b5 (.cells [tv.1, (.slice (some ⟨b23, 0, none⟩) 5 5), rv, w9, (.slice none 0 0)].toArray 32 (0, 0)), row w9 82 9 (X9).length (rows lexR (X9)), dat (dall lexD X9), dat (sl ruleR rv rls), dat (dall ruleD rls), dat (sl tyR tv.1 ts), dat (dall tyD ts), dat (sl featR (.slice (some ⟨b23, 0, none⟩) 5 5) smFeats), blk b4 (.cells [sv xr.base, xr.av.1].toArray 77 (0, 0)), dat (isSim (fn0 (.mk [101] []) (fn0 (.mk [101] []) (.mk [116] []))) (simV xr)), blk b3 (.cells [sv xp.base, xp.av.1].toArray 77 (0, 0)), dat (isSim (fn0 (.mk [101] []) (.mk [116] [])) (simV xp)), blk b2 (.cells [sv xt.base, xt.av.1].toArray 77 (0, 0)), blk b1 (.cells [sv xe.base, xe.av.1].toArray 77 (0, 0)), dat (isSim (.mk [116] []) (simV xt)), dat (isSim (.mk [101] []) (simV xe)), blk b0 (.cells [(.slice none 0 0), (.slice none 0 0), (.slice none 0 0), (.slice none 0 0), (.slice none 0 0)].toArray 32 (0, 0))] (by repeat (first | exact List.Sublist.slnil | with_reducible refine List.Sublist.cons_cons _ ?_ | refine List.Sublist.cons _ ?_)) ?_
 refine St.nil (St.then_normal (St.seq (St.rg ?_)))
 refine St.mv ?_
 refine St.ev _ (Ev.ldbA (.mk rfl) Tryd.underlying77 trivial (by exact sz77)) rfl ?_
 refine St.calld (con_spec [98, 97, 114, 107] (by decide) (simV xp) (fn0 (.mk [101] []) (.mk [116] []))) cb32 (.cons (.mk rfl) (.cons (.mk rfl) .nil)) rfl ?_
 rintro v157 _ rfl
 refine St.app1 ?_
 refine St.bsl rfl (.cons (.mk rfl) (.cons (.mk rfl) (.cons (.mk rfl) .nil))) Tryd.underlying57 sz3 zv3 rfl rfl (by simp [Value.cells]) rfl rfl (fun b158 => ?_)
 refine St.publish (.slice (some ⟨b158, 0, none⟩) 3 3) intR [11, 4, 1] rfl rfl (wfI (by decide)) ?_
 refine St.bsl rfl (.cons (.mk rfl) .nil) Tryd.underlying57 sz3 zv3 rfl rfl (by simp [Value.cells]) rfl rfl (fun b159 => ?_)
 refine St.publish (.slice (some ⟨b159, 0, none⟩) 1 1) intR [4] rfl rfl (wfI (by decide)) ?_
 refine St.bsl rfl (.cons (.mk rfl) (.cons (.mk rfl) .nil)) Tryd.underlying40 sz57 zv57 rfl rfl (by simp [Value.cells]) rfl rfl (fun b160 => ?_)
 refine St.publish (.slice (some ⟨b160, 0, none⟩) 2 2) valR [⟨(.slice (some ⟨b158, 0, none⟩) 3 3), rfl⟩, ⟨(.slice (some ⟨b159, 0, none⟩) 1 1), rfl⟩] (show _ = rows valR [⟨(.slice (some ⟨b158, 0, none⟩) 3 3), rfl⟩, ⟨(.slice (some ⟨b159, 0, none⟩) 1 1), rfl⟩] by simp only [List.flatMap_cons, List.flatMap_nil, Value.cells]; rfl) rfl (fun _ _ => trivial) ?_
 refine nsl_of intR (.slice (some ⟨b160, 0, none⟩) 2 2) [⟨(.slice (some ⟨b158, 0, none⟩) 3 3), rfl⟩, ⟨(.slice (some ⟨b159, 0, none⟩) 1 1), rfl⟩] [[11, 4, 1], [4]] [sl intR (.slice (some ⟨b158, 0, none⟩) 3 3) [11, 4, 1], sl intR (.slice (some ⟨b159, 0, none⟩) 1 1) [4]] rfl rfl ?_
 refine St.toNsl (Rr := intR) (xs := [[11, 4, 1], [4]]) (.slice (some ⟨b160, 0, none⟩) 2 2) rfl ?_
 refine St.callc (add_spec b5 tv.1 (.slice (some ⟨b23, 0, none⟩) 5 5) rv (.slice none 0 0) w9 X9 [98, 97, 114, 107, 115] 0 v157 (.slice (some ⟨b160, 0, none⟩) 2 2) (con0 [98, 97, 114, 107] (fn0 (.mk [101] []) (.mk [116] []))) [[11, 4, 1], [4]] (by decide) (by unfold i64ok; decide) hX9o (by omega) hX9w (by decide) (by decide)) cb30 (.mk rfl) (.cons (.mk rfl) (.cons (.mk rfl) (.cons (.mk rfl) (.cons (.mk rfl) .nil)))) rfl ?_
 rintro v161 _ ⟨w10, x10, rfl, hX10o, hx10E, hx10w, rfl⟩
 refine St.app3 ?_
 obtain ⟨X10, hX10⟩ : ∃ X : List LexD, X = X9 ++ [x10] := ⟨_, rfl⟩
 rw [← hX10]
 have hX10w : ∀ x ∈ X10, lexR.wf x := by rw [hX10]; exact fun x hx => (List.mem_append.1 hx).elim (hX9w x) fun q => by rw [List.mem_singleton.1 q]; exact hx10w
 have hX10E : X10.map lxE = smLexes.take 10 := by rw [hX10, List.map_append, hX9E, List.map_cons, List.map_nil, hx10E]; rfl
 have hX10l : X10.length = 10 := by rw [hX10, List.length_append, hX9l]; rfl
 refine St.subl [blk b5 (.cells [tv.1, (.slice (some ⟨b23, 0, none⟩) 5 5), rv, w10, (.slice none 0 0)].toArray 32 (0, 0)), row w10 82 9 (X10).length (rows lexR (X10)), dat (dall lexD X10), dat (sl ruleR rv rls), dat (dall ruleD rls), dat (sl tyR tv.1 ts), dat (dall tyD ts), dat (sl featR (.slice (some ⟨b23, 0, none⟩) 5 5) smFeats), blk b4 (.cells [sv xr.base, xr.av.1].toArray 77 (0, 0)), dat (isSim (fn0 (.mk [101] []) (fn0 (.mk [101] []) (.mk [116] []))) (simV xr)), blk b3 (.cells [sv xp.base, xp.av.1].toArray 77 (0, 0)), dat (isSim (fn0 (.mk [101] []) (.mk [116] [])) (simV xp)), blk b2 (.cells [sv xt.base, xt.av.1].toArray 77 (0, 0)), blk b1 (.cells [sv xe.base, xe.av.1].toArray 77 (0, 0)), dat (isSim (.mk [116] []) (simV xt)), dat (isSim (.mk [101] []) (simV xe)), blk b0 (.cells [(.slice none 0 0), (.slice none 0 0), (.slice none 0 0), (.slice none 0 0), (.slice none 0 0)].toArray 32 (0, 0))] (by repeat (first | exact List.Sublist.slnil | with_reducible refine List.Sublist.cons_cons _ ?_ | refine List.Sublist.cons _ ?_)) ?_
 refine St.nil (St.then_normal (St.seq (St.rg ?_)))
 refine St.mv ?_
 refine St.ev _ (Ev.ldbA (.mk rfl) Tryd.underlying77 trivial (by exact sz77)) rfl ?_
 refine St.calld (con_spec [98, 97, 114, 107] (by decide) (simV xp) (fn0 (.mk [101] []) (.mk [116] []))) cb32 (.cons (.mk rfl) (.cons (.mk rfl) .nil)) rfl ?_
 rintro v164 _ rfl
 refine St.app1 ?_
 refine St.bsl rfl (.cons (.mk rfl) (.cons (.mk rfl) (.cons (.mk rfl) .nil))) Tryd.underlying57 sz3 zv3 rfl rfl (by simp [Value.cells]) rfl rfl (fun b165 => ?_)
 refine St.publish (.slice (some ⟨b165, 0, none⟩) 3 3) intR [11, 4, 1] rfl rfl (wfI (by decide)) ?_
 refine St.bsl rfl (.cons (.mk rfl) .nil) Tryd.underlying57 sz3 zv3 rfl rfl (by simp [Value.cells]) rfl rfl (fun b166 => ?_)
 refine St.publish (.slice (some ⟨b166, 0, none⟩) 1 1) intR [5] rfl rfl (wfI (by decide)) ?_
 refine St.bsl rfl (.cons (.mk rfl) (.cons (.mk rfl) .nil)) Tryd.underlying40 sz57 zv57 rfl rfl (by simp [Value.cells]) rfl rfl (fun b167 => ?_)
 refine St.publish (.slice (some ⟨b167, 0, none⟩) 2 2) valR [⟨(.slice (some ⟨b165, 0, none⟩) 3 3), rfl⟩, ⟨(.slice (some ⟨b166, 0, none⟩) 1 1), rfl⟩] (show _ = rows valR [⟨(.slice (some ⟨b165, 0, none⟩) 3 3), rfl⟩, ⟨(.slice (some ⟨b166, 0, none⟩) 1 1), rfl⟩] by simp only [List.flatMap_cons, List.flatMap_nil, Value.cells]; rfl) rfl (fun _ _ => trivial) ?_
 refine nsl_of intR (.slice (some ⟨b167, 0, none⟩) 2 2) [⟨(.slice (some ⟨b165, 0, none⟩) 3 3), rfl⟩, ⟨(.slice (some ⟨b166, 0, none⟩) 1 1), rfl⟩] [[11, 4, 1], [5]] [sl intR (.slice (some ⟨b165, 0, none⟩) 3 3) [11, 4, 1], sl intR (.slice (some ⟨b166, 0, none⟩) 1 1) [5]] rfl rfl ?_
 refine St.toNsl (Rr := intR) (xs := [[11, 4, 1], [5]]) (.slice (some ⟨b167, 0, none⟩) 2 2) rfl ?_
 refine St.callc (add_spec b5 tv.1 (.slice (some ⟨b23, 0, none⟩) 5 5) rv (.slice none 0 0) w10 X10 [98, 97, 114, 107] 0 v164 (.slice (some ⟨b167, 0, none⟩) 2 2) (con0 [98, 97, 114, 107] (fn0 (.mk [101] []) (.mk [116] []))) [[11, 4, 1], [5]] (by decide) (by unfold i64ok; decide) hX10o (by omega) hX10w (by decide) (by decide)) cb30 (.mk rfl) (.cons (.mk rfl) (.cons (.mk rfl) (.cons (.mk rfl) (.cons (.mk rfl) .nil)))) rfl ?_
 rintro v168 _ ⟨w11, x11, rfl, hX11o, hx11E, hx11w, rfl⟩
 refine St.app3 ?_
 obtain ⟨X11, hX11⟩ : ∃ X : List LexD, X = X10 ++ [x11] := ⟨_, rfl⟩
 rw [← hX11]
 have hX11w : ∀ x ∈ X11, lexR.wf x := by rw [hX11]; exact fun x hx => (List.mem_append.1 hx).elim (hX10w x) fun q => by rw [List.mem_singleton.1 q]; exact hx11w
 have hX11E : X11.map lxE = smLexes.take 11 := by rw [hX11, List.map_append, hX10E, List.map_cons, List.map_nil, hx11E]; rfl
 have hX11l : X11.length = 11 := by rw [hX11, List.length_append, hX10l]; rfl
 refine St.subl [blk b5 (.cells [tv.1, (.slice (some ⟨b23, 0, none⟩) 5 5), rv, w11, (.slice none 0 0)].toArray 32 (0, 0)), row w11 82 9 (X11).length (rows lexR (X11)), dat (dall lexD X11), dat (sl ruleR rv rls), dat (dall ruleD rls), dat (sl tyR tv.1 ts), dat (dall tyD ts), dat (sl featR (.slice (some ⟨b23, 0, none⟩) 5 5) smFeats), blk b4 (.cells [sv xr.base, xr.av.1].toArray 77 (0, 0)), dat (isSim (fn0 (.mk [101] []) (fn0 (.mk [101] []) (.mk [116] []))) (simV xr)), blk b3 (.cells [sv xp.base, xp.av.1].toArray 77 (0, 0)), dat (isSim (fn0 (.mk [101] []) (.mk [116] [])) (simV xp)), blk b2 (.cells [sv xt.base, xt.av.1].toArray 77 (0, 0)), blk b1 (.cells [sv xe.base, xe.av.1].toArray 77 (0, 0)), dat (isSim (.mk [116] []) (simV xt)), dat (isSim (.mk [101] []) (simV xe)), blk b0 (.cells [(.slice none 0 0), (.slice none 0 0), (.slice none 0 0), (.slice none 0 0), (.slice none 0 0)].toArray 32 (0, 0))] (by repeat (first | exact List.Sublist.slnil | with_reducible refine List.Sublist.cons_cons _ ?_ | refine List.Sublist.cons _ ?_)) ?_
 refine St.nil (St.then_normal (St.seq (St.rg ?_)))
 refine St.mv ?_
 refine St.ev _ (Ev.ldbA (.mk rfl) Tryd.underlying77 trivial (by exact sz77)) rfl ?_
 refine St.calld (con_spec [115, 108, 101, 101, 112] (by decide) (simV xp) (fn0 (.mk [101] []) (.mk [116] []))) cb32 (.cons (.mk rfl) (.cons (.mk rfl) .nil)) rfl ?_
 rintro v171 _ rfl
 refine St.app1 ?_
 refine St.bsl rfl (.cons (.mk rfl) (.cons (.mk rfl) (.cons (.mk rfl) .nil))) Tryd.underlying57 sz3 zv3 rfl rfl (by simp [Value.cells]) rfl rfl (fun b172 => ?_)
 refine St.publish (.slice (some ⟨b172, 0, none⟩) 3 3) intR [11, 4, 1] rfl rfl (wfI (by decide)) ?_
 refine St.bsl rfl (.cons (.mk rfl) .nil) Tryd.underlying57 sz3 zv3 rfl rfl (by simp [Value.cells]) rfl rfl (fun b173 => ?_)
 refine St.publish (.slice (some ⟨b173, 0, none⟩) 1 1) intR [4] rfl rfl (wfI (by decide)) ?_
 refine St.bsl rfl (.cons (.mk rfl) (.cons (.mk rfl) .nil)) Tryd.underlying40 sz57 zv57 rfl rfl (by simp [Value.cells]) rfl rfl (fun b174 => ?_)
 refine St.publish (.slice (some ⟨b174, 0, none⟩) 2 2) valR [⟨(.slice (some ⟨b172, 0, none⟩) 3 3), rfl⟩, ⟨(.slice (some ⟨b173, 0, none⟩) 1 1), rfl⟩] (show _ = rows valR [⟨(.slice (some ⟨b172, 0, none⟩) 3 3), rfl⟩, ⟨(.slice (some ⟨b173, 0, none⟩) 1 1), rfl⟩] by simp only [List.flatMap_cons, List.flatMap_nil, Value.cells]; rfl) rfl (fun _ _ => trivial) ?_
 refine nsl_of intR (.slice (some ⟨b174, 0, none⟩) 2 2) [⟨(.slice (some ⟨b172, 0, none⟩) 3 3), rfl⟩, ⟨(.slice (some ⟨b173, 0, none⟩) 1 1), rfl⟩] [[11, 4, 1], [4]] [sl intR (.slice (some ⟨b172, 0, none⟩) 3 3) [11, 4, 1], sl intR (.slice (some ⟨b173, 0, none⟩) 1 1) [4]] rfl rfl ?_
 refine St.toNsl (Rr := intR) (xs := [[11, 4, 1], [4]]) (.slice (some ⟨b174, 0, none⟩) 2 2) rfl ?_
 refine St.callc (add_spec b5 tv.1 (.slice (some ⟨b23, 0, none⟩) 5 5) rv (.slice none 0 0) w11 X11 [115, 108, 101, 101, 112, 115] 0 v171 (.slice (some ⟨b174, 0, none⟩) 2 2) (con0 [115, 108, 101, 101, 112] (fn0 (.mk [101] []) (.mk [116] []))) [[11, 4, 1], [4]] (by decide) (by unfold i64ok; decide) hX11o (by omega) hX11w (by decide) (by decide)) cb30 (.mk rfl) (.cons (.mk rfl) (.cons (.mk rfl) (.cons (.mk rfl) (.cons (.mk rfl) .nil)))) rfl ?_
 rintro v175 _ ⟨w12, x12, rfl, hX12o, hx12E, hx12w, rfl⟩
 refine St.app3 ?_
 obtain ⟨X12, hX12⟩ : ∃ X : List LexD, X = X11 ++ [x12] := ⟨_, rfl⟩
 rw [← hX12]
 have hX12w : ∀ x ∈ X12, lexR.wf x := by rw [hX12]; exact fun x hx => (List.mem_append.1 hx).elim (hX11w x) fun q => by rw [List.mem_singleton.1 q]; exact hx12w
 have hX12E : X12.map lxE = smLexes.take 12 := by rw [hX12, List.map_append, hX11E, List.map_cons, List.map_nil, hx12E]; rfl
 have hX12l : X12.length = 12 := by rw [hX12, List.length_append, hX11l]; rfl
 refine St.subl [blk b5 (.cells [tv.1, (.slice (some ⟨b23, 0, none⟩) 5 5), rv, w12, (.slice none 0 0)].toArray 32 (0, 0)), row w12 82 9 (X12).length (rows lexR (X12)), dat (dall lexD X12), dat (sl ruleR rv rls), dat (dall ruleD rls), dat (sl tyR tv.1 ts), dat (dall tyD ts), dat (sl featR (.slice (some ⟨b23, 0, none⟩) 5 5) smFeats), blk b4 (.cells [sv xr.base, xr.av.1].toArray 77 (0, 0)), dat (isSim (fn0 (.mk [101] []) (fn0 (.mk [101] []) (.mk [116] []))) (simV xr)), blk b3 (.cells [sv xp.base, xp.av.1].toArray 77 (0, 0)), dat (isSim (fn0 (.mk [101] []) (.mk [116] [])) (simV xp)), blk b2 (.cells [sv xt.base, xt.av.1].toArray 77 (0, 0)), blk b1 (.cells [sv xe.base, xe.av.1].toArray 77 (0, 0)), dat (isSim (.mk [116] []) (simV xt)), dat (isSim (.mk [101] []) (simV xe)), blk b0 (.cells [(.slice none 0 0), (.slice none 0 0), (.slice none 0 0), (.slice none 0 0), (.slice none 0 0)].toArray 32 (0, 0))] (by repeat (first | exact List.Sublist.slnil | with_reducible refine List.Sublist.cons_cons _ ?_ | refine List.Sublist.cons _ ?_)) ?_
 refine St.nil (St.then_normal (St.seq (St.rg ?_)))
 refine St.mv ?_
 refine St.ev _ (Ev.ldbA (.mk rfl) Tryd.underlying77 trivial (by exact sz77)) rfl ?_
 refine St.calld (con_spec [115, 108, 101, 101, 112] (by decide) (simV xp) (fn0 (.mk [101] []) (.mk [116] []))) cb32 (.cons (.mk rfl) (.cons (.mk rfl) .nil)) rfl ?_
 rintro v178 _ rfl
 refine St.app1 ?_
 refine St.bsl rfl (.cons (.mk rfl) (.cons (.mk rfl) (.cons (.mk rfl) .nil))) Tryd.underlying57 sz3 zv3 rfl rfl (by simp [Value.cells]) rfl rfl (fun b179 => ?_)
 refine St.publish (.slice (some ⟨b179, 0, none⟩) 3 3) intR [11, 4, 1] rfl rfl (wfI (by decide)) ?_
 refine St.bsl rfl (.cons (.mk rfl) .nil) Tryd.underlying57 sz3 zv3 rfl rfl (by simp [Value.cells]) rfl rfl (fun b180 => ?_)
 refine St.publish (.slice (some ⟨b180, 0, none⟩) 1 1) intR [5] rfl rfl (wfI (by decide)) ?_
 refine St.bsl rfl (.cons (.mk rfl) (.cons (.mk rfl) .nil)) Tryd.underlying40 sz57 zv57 rfl rfl (by simp [Value.cells]) rfl rfl (fun b181 => ?_)
 refine St.publish (.slice (some ⟨b181, 0, none⟩) 2 2) valR [⟨(.slice (some ⟨b179, 0, none⟩) 3 3), rfl⟩, ⟨(.slice (some ⟨b180, 0, none⟩) 1 1), rfl⟩] (show _ = rows valR [⟨(.slice (some ⟨b179, 0, none⟩) 3 3), rfl⟩, ⟨(.slice (some ⟨b180, 0, none⟩) 1 1), rfl⟩] by simp only [List.flatMap_cons, List.flatMap_nil, Value.cells]; rfl) rfl (fun _ _ => trivial) ?_
 refine nsl_of intR (.slice (some ⟨b181, 0, none⟩) 2 2) [⟨(.slice (some ⟨b179, 0, none⟩) 3 3), rfl⟩, ⟨(.slice (some ⟨b180, 0, none⟩) 1 1), rfl⟩] [[11, 4, 1], [5]] [sl intR (.slice (some ⟨b179, 0, none⟩) 3 3) [11, 4, 1], sl intR (.slice (some ⟨b180, 0, none⟩) 1 1) [5]] rfl rfl ?_
 refine St.toNsl (Rr := intR) (xs := [[11, 4, 1], [5]]) (.slice (some ⟨b181, 0, none⟩) 2 2) rfl ?_
 refine St.callc (add_spec b5 tv.1 (.slice (some ⟨b23, 0, none⟩) 5 5) rv (.slice none 0 0) w12 X12 [115, 108, 101, 101, 112] 0 v178 (.slice (some ⟨b181, 0, none⟩) 2 2) (con0 [115, 108, 101, 101, 112] (fn0 (.mk [101] []) (.mk [116] []))) [[11, 4, 1], [5]] (by decide) (by unfold i64ok; decide) hX12o (by omega) hX12w (by decide) (by decide)) cb30 (.mk rfl) (.cons (.mk rfl) (.cons (.mk rfl) (.cons (.mk rfl) (.cons (.mk rfl) .nil)))) rfl ?_
 rintro v182 _ ⟨w13, x13, rfl, hX13o, hx13E, hx13w, rfl⟩
 refine St.app3 ?_
 obtain ⟨X13, hX13⟩ : ∃ X : List LexD, X = X12 ++ [x13] := ⟨_, rfl⟩
 rw [← hX13]
 have hX13w : ∀ x ∈ X13, lexR.wf x := by rw [hX13]; exact fun x hx => (List.mem_append.1 hx).elim (hX12w x) fun q => by rw [List.mem_singleton.1 q]; exact hx13w
 have hX13E : X13.map lxE = smLexes.take 13 := by rw [hX13, List.map_append, hX12E, List.map_cons, List.map_nil, hx13E]; rfl
 have hX13l : X13.length = 13 := by rw [hX13, List.length_append, hX12l]; rfl
 refine St.subl [blk b5 (.cells [tv.1, (.slice (some ⟨b23, 0, none⟩) 5 5), rv, w13, (.slice none 0 0)].toArray 32 (0, 0)), row w13 82 9 (X13).length (rows lexR (X13)), dat (dall lexD X13), dat (sl ruleR rv rls), dat (dall ruleD rls), dat (sl tyR tv.1 ts), dat (dall tyD ts), dat (sl featR (.slice (some ⟨b23, 0, none⟩) 5 5) smFeats), blk b4 (.cells [sv xr.base, xr.av.1].toArray 77 (0, 0)), dat (isSim (fn0 (.mk [101] []) (fn0 (.mk [101] []) (.mk [116] []))) (simV xr)), blk b3 (.cells [sv xp.base, xp.av.1].toArray 77 (0, 0)), dat (isSim (fn0 (.mk [101] []) (.mk [116] [])) (simV xp)), blk b2 (.cells [sv xt.base, xt.av.1].toArray 77 (0, 0)), blk b1 (.cells [sv xe.base, xe.av.1].toArray 77 (0, 0)), dat (isSim (.mk [116] []) (simV xt)), dat (isSim (.mk [101] []) (simV xe)), blk b0 (.cells [(.slice none 0 0), (.slice none 0 0), (.slice none 0 0), (.slice none 0 0), (.slice none 0 0)].toArray 32 (0, 0))] (by repeat (first | exact List.Sublist.slnil | with_reducible refine List.Sublist.cons_cons _ ?_ | refine List.Sublist.cons _ ?_)) ?_
 refine St.nil (St.then_normal (St.seq (St.rg ?_)))
 refine St.mv ?_
 refine St.ev _ (Ev.ldbA (.mk rfl) Tryd.underlying77 trivial (by exact sz77)) rfl ?_
 refine St.calld (con_spec [99, 104, 97, 115, 101] (by decide) (simV xr) (fn0 (.mk [101] []) (fn0 (.mk [101] []) (.mk [116] [])))) cb32 (.cons (.mk rfl) (.cons (.mk rfl) .nil)) rfl ?_
 rintro v185 _ rfl
 refine St.app1 ?_
 refine St.bsl rfl (.cons (.mk rfl) (.cons (.mk rfl) (.cons (.mk rfl) .nil))) Tryd.underlying57 sz3 zv3 rfl rfl (by simp [Value.cells]) rfl rfl (fun b186 => ?_)
 refine St.publish (.slice (some ⟨b186, 0, none⟩) 3 3) intR [12, 4, 1] rfl rfl (wfI (by decide)) ?_
 refine St.bsl rfl (.cons (.mk rfl) .nil) Tryd.underlying57 sz3 zv3 rfl rfl (by simp [Value.cells]) rfl rfl (fun b187 => ?_)
 refine St.publish (.slice (some ⟨b187, 0, none⟩) 1 1) intR [4] rfl rfl (wfI (by decide)) ?_
 refine St.bsl rfl (.cons (.mk rfl) (.cons (.mk rfl) .nil)) Tryd.underlying40 sz57 zv57 rfl rfl (by simp [Value.cells]) rfl rfl (fun b188 => ?_)
 refine St.publish (.slice (some ⟨b188, 0, none⟩) 2 2) valR [⟨(.slice (some ⟨b186, 0, none⟩) 3 3), rfl⟩, ⟨(.slice (some ⟨b187, 0, none⟩) 1 1), rfl⟩] (show _ = rows valR [⟨(.slice (some ⟨b186, 0, none⟩) 3 3), rfl⟩, ⟨(.slice (some ⟨b187, 0, none⟩) 1 1), rfl⟩] by simp only [List.flatMap_cons, List.flatMap_nil, Value.cells]; rfl) rfl (fun _ _ => trivial) ?_
 refine nsl_of intR (.slice (some ⟨b188, 0, none⟩) 2 2) [⟨(.slice (some ⟨b186, 0, none⟩) 3 3), rfl⟩, ⟨(.slice (some ⟨b187, 0, none⟩) 1 1), rfl⟩] [[12, 4, 1], [4]] [sl intR (.slice (some ⟨b186, 0, none⟩) 3 3) [12, 4, 1], sl intR (.slice (some ⟨b187, 0, none⟩) 1 1) [4]] rfl rfl ?_
 refine St.toNsl (Rr := intR) (xs := [[12, 4, 1], [4]]) (.slice (some ⟨b188, 0, none⟩) 2 2) rfl ?_
 refine St.callc (add_spec b5 tv.1 (.slice (some ⟨b23, 0, none⟩) 5 5) rv (.slice none 0 0) w13 X13 [99, 104, 97, 115, 101, 115] 0 v185 (.slice (some ⟨b188, 0, none⟩) 2 2) (con0 [99, 104, 97, 115, 101] (fn0 (.mk [101] []) (fn0 (.mk [101] []) (.mk [116] [])))) [[12, 4, 1], [4]] (by decide) (by unfold i64ok; decide) hX13o (by omega) hX13w (by decide) (by decide)) cb30 (.mk rfl) (.cons (.mk rfl) (.cons (.mk rfl) (.cons (.mk rfl) (.cons (.mk rfl) .nil)))) rfl ?_
 rintro v189 _ ⟨w14, x14, rfl, hX14o, hx14E, hx14w, rfl⟩
 refine St.app3 ?_
 obtain ⟨X14, hX14⟩ : ∃ X : List LexD, X = X13 ++ [x14] := ⟨_, rfl⟩
 rw [← hX14]
 have hX14w : ∀ x ∈ X14, lexR.wf x := by rw [hX14]; exact fun x hx => (List.mem_append.1 hx).elim (hX13w x) fun q => by rw [List.mem_singleton.1 q]; exact hx14w
 have hX14E : X14.map lxE = smLexes.take 14 := by rw [hX14, List.map_append, hX13E, List.map_cons, List.map_nil, hx14E]; rfl
 have hX14l : X14.length = 14 := by rw [hX14, List.length_append, hX13l]; rfl
 refine St.subl [blk b5 (.cells [tv.1, (.slice (some ⟨b23, 0, none⟩) 5 5), rv, w14, (.slice none 0 0)].toArray 32 (0, 0)), row w14 82 9 (X14).length (rows lexR (X14)), dat (dall lexD X14), dat (sl ruleR rv rls), dat (dall ruleD rls), dat (sl tyR tv.1 ts), dat (dall tyD ts), dat (sl featR (.slice (some ⟨b23, 0, none⟩) 5 5) smFeats), blk b4 (.cells [sv xr.base, xr.av.1].toArray 77 (0, 0)), dat (isSim (fn0 (.mk [101] []) (fn0 (.mk [101] []) (.mk [116] []))) (simV xr)), blk b3 (.cells [sv xp.base, xp.av.1].toArray 77 (0, 0)), dat (isSim (fn0 (.mk [101] []) (.mk [116] [])) (simV xp)), blk b2 (.cells [sv xt.base, xt.av.1].toArray 77 (0, 0)), blk b1 (.cells [sv xe.base, xe.av.1].toArray 77 (0, 0)), dat (isSim (.mk [116] []) (simV xt)), dat (isSim (.mk [101] []) (simV xe)), blk b0 (.cells [(.slice none 0 0), (.slice none 0 0), (.slice none 0 0), (.slice none 0 0), (.slice none 0 0)].toArray 32 (0, 0))] (by repeat (first | exact List.Sublist.slnil | with_reducible refine List.Sublist.cons_cons _ ?_ | refine List.Sublist.cons _ ?_)) ?_
 refine St.nil (St.then_normal (St.seq (St.rg ?_)))
 refine St.mv ?_
 refine St.ev _ (Ev.ldbA (.mk rfl) Tryd.underlying77 trivial (by exact sz77)) rfl ?_
 refine St.calld (con_spec [99, 104, 97, 115, 101] (by decide) (simV xr) (fn0 (.mk [101] []) (fn0 (.mk [101] []) (.mk [116] [])))) cb32 (.cons (.mk rfl) (.cons (.mk rfl) .nil)) rfl ?_
 rintro v192 _ rfl
 refine St.app1 ?_
 refine St.bsl rfl (.cons (.mk rfl) (.cons (.mk rfl) (.cons (.mk rfl) .nil))) Tryd.underlying57 sz3 zv3 rfl rfl (by simp [Value.cells]) rfl rfl (fun b193 => ?_)
 refine St.publish (.slice (some ⟨b193, 0, none⟩) 3 3) intR [12, 4, 1] rfl rfl (wfI (by decide)) ?_
 refine St.bsl rfl (.cons (.mk rfl) .nil) Tryd.underlying57 sz3 zv3 rfl rfl (by simp [Value.cells]) rfl rfl (fun b194 => ?_)
 refine St.publish (.slice (some ⟨b194, 0, none⟩) 1 1) intR [5] rfl rfl (wfI (by decide)) ?_
 refine St.bsl rfl (.cons (.mk rfl) (.cons (.mk rfl) .nil)) Tryd.underlying40 sz57 zv57 rfl rfl (by simp [Value.cells]) rfl rfl (fun b195 => ?_)
 refine St.publish (.slice (some ⟨b195, 0, none⟩) 2 2) valR [⟨(.slice (some ⟨b193, 0, none⟩) 3 3), rfl⟩, ⟨(.slice (some ⟨b194, 0, none⟩) 1 1), rfl⟩] (show _ = rows valR [⟨(.slice (some ⟨b193, 0, none⟩) 3 3), rfl⟩, ⟨(.slice (some ⟨b194, 0, none⟩) 1 1), rfl⟩] by simp only [List.flatMap_cons, List.flatMap_nil, Value.cells]; rfl) rfl (fun _ _ => trivial) ?_
 refine nsl_of intR (.slice (some ⟨b195, 0, none⟩) 2 2) [⟨(.slice (some ⟨b193, 0, none⟩) 3 3), rfl⟩, ⟨(.slice (some ⟨b194, 0, none⟩) 1 1), rfl⟩] [[12, 4, 1], [5]] [sl intR (.slice (some ⟨b193, 0, none⟩) 3 3) [12, 4, 1], sl intR (.slice (some ⟨b194, 0, none⟩) 1 1) [5]] rfl rfl ?_
 refine St.toNsl (Rr := intR) (xs := [[12, 4, 1], [5]]) (.slice (some ⟨b195, 0, none⟩) 2 2) rfl ?_
 refine St.callc (add_spec b5 tv.1 (.slice (some ⟨b23, 0, none⟩) 5 5) rv (.slice none 0 0) w14 X14 [99, 104, 97, 115, 101] 0 v192 (.slice (some ⟨b195, 0, none⟩) 2 2) (con0 [99, 104, 97, 115, 101] (fn0 (.mk [101] []) (fn0 (.mk [101] []) (.mk [116] [])))) [[12, 4, 1], [5]] (by decide) (by unfold i64ok; decide) hX14o (by omega) hX14w (by decide) (by decide)) cb30 (.mk rfl) (.cons (.mk rfl) (.cons (.mk rfl) (.cons (.mk rfl) (.cons (.mk rfl) .nil)))) rfl ?_
 rintro v196 _ ⟨w15, x15, rfl, hX15o, hx15E, hx15w, rfl⟩
 refine St.app3 ?_
 obtain ⟨X15, hX15⟩ : ∃ X : List LexD, X = X14 ++ [x15] := ⟨_, rfl⟩
 rw [← hX15]
 have hX15w : ∀ x ∈ X15, lexR.wf x := by rw [hX15]; exact fun x hx => (List.mem_append.1 hx).elim (hX14w x) fun q => by rw [List.mem_singleton.1 q]; exact hx15w
 have hX15E : X15.map lxE = smLexes.take 15 := by rw [hX15, List.map_append, hX14E, List.map_cons, List.map_nil, hx15E]; rfl
 have hX15l : X15.length = 15 := by rw [hX15, List.length_append, hX14l]; rfl
 refine St.subl [blk b5 (.cells [tv.1, (.slice (some ⟨b23, 0, none⟩) 5 5), rv, w15, (.slice none 0 0)].toArray 32 (0, 0)), row w15 82 9 (X15).length (rows lexR (X15)), dat (dall lexD X15), dat (sl ruleR rv rls), dat (dall ruleD rls), dat (sl tyR tv.1 ts), dat (dall tyD ts), dat (sl featR (.slice (some ⟨b23, 0, none⟩) 5 5) smFeats), blk b4 (.cells [sv xr.base, xr.av.1].toArray 77 (0, 0)), dat (isSim (fn0 (.mk [101] []) (fn0 (.mk [101] []) (.mk [116] []))) (simV xr)), blk b3 (.cells [sv xp.base, xp.av.1].toArray 77 (0, 0)), dat (isSim (fn0 (.mk [101] []) (.mk [116] [])) (simV xp)), blk b2 (.cells [sv xt.base, xt.av.1].toArray 77 (0, 0)), blk b1 (.cells [sv xe.base, xe.av.1].toArray 77 (0, 0)), dat (isSim (.mk [116] []) (simV xt)), dat (isSim (.mk [101] []) (simV xe)), blk b0 (.cells [(.slice none 0 0), (.slice none 0 0), (.slice none 0 0), (.slice none 0 0), (.slice none 0 0)].toArray 32 (0, 0))] (by repeat (first | exact List.Sublist.slnil | with_reducible refine List.Sublist.cons_cons _ ?_ | refine List.Sublist.cons _ ?_)) ?_
 refine St.nil (St.then_normal (St.seq (St.rg ?_)))
 refine St.mv ?_
 refine St.ev _ (Ev.ldbA (.mk rfl) Tryd.underlying77 trivial (by exact sz77)) rfl ?_
 refine St.calld (con_spec [115, 101, 101] (by decide) (simV xr) (fn0 (.mk [101] []) (fn0 (.mk [101] []) (.mk [116] [])))) cb32 (.cons (.mk rfl) (.cons (.mk rfl) .nil)) rfl ?_
 rintro v199 _ rfl
 refine St.app1 ?_
 refine St.bsl rfl (.cons (.mk rfl) (.cons (.mk rfl) (.cons (.mk rfl) .nil))) Tryd.underlying57 sz3 zv3 rfl rfl (by simp [Value.cells]) rfl rfl (fun b200 => ?_)
 refine St.publish (.slice (some ⟨b200, 0, none⟩) 3 3) intR [12, 4, 1] rfl rfl (wfI (by decide)) ?_
 refine St.bsl rfl (.cons (.mk rfl) .nil) Tryd.underlying57 sz3 zv3 rfl rfl (by simp [Value.cells]) rfl rfl (fun b201 => ?_)
 refine St.publish (.slice (some ⟨b201, 0, none⟩) 1 1) intR [4] rfl rfl (wfI (by decide)) ?_
 refine St.bsl rfl (.cons (.mk rfl) (.cons (.mk rfl) .nil)) Tryd.underlying40 sz57 zv57 rfl rfl (by simp [Value.cells]) rfl rfl (fun b202 => ?_)
 refine St.publish (.slice (some ⟨b202, 0, none⟩) 2 2) valR [⟨(.slice (some ⟨b200, 0, none⟩) 3 3), rfl⟩, ⟨(.slice (some ⟨b201, 0, none⟩) 1 1), rfl⟩] (show _ = rows valR [⟨(.slice (some ⟨b200, 0, none⟩) 3 3), rfl⟩, ⟨(.slice (some ⟨b201, 0, none⟩) 1 1), rfl⟩] by simp only [List.flatMap_cons, List.flatMap_nil, Value.cells]; rfl) rfl (fun _ _ => trivial) ?_
 refine nsl_of intR (.slice (some ⟨b202, 0, none⟩) 2 2) [⟨(.slice (some ⟨b200, 0, none⟩) 3 3), rfl⟩, ⟨(.slice (some ⟨b201, 0, none⟩) 1 1), rfl⟩] [[12, 4, 1], [4]] [sl intR (.slice (some ⟨b200, 0, none⟩) 3 3) [12, 4, 1], sl intR (.slice (some ⟨b201, 0, none⟩) 1 1) [4]] rfl rfl ?_
 refine St.toNsl (Rr := intR) (xs := [[12, 4, 1], [4]]) (.slice (some ⟨b202, 0, none⟩) 2 2) rfl ?_
 refine St.callc (add_spec b5 tv.1 (.slice (some ⟨b23, 0, none⟩) 5 5) rv (.slice none 0 0) w15 X15 [115, 101, 101, 115] 1 v199 (.slice (some ⟨b202, 0, none⟩) 2 2) (con0 [115, 101, 101] (fn0 (.mk [101] []) (fn0 (.mk [101] []) (.mk [116] [])))) [[12, 4, 1], [4]] (by decide) (by unfold i64ok; decide) hX15o (by omega) hX15w (by decide) (by decide)) cb30 (.mk rfl) (.cons (.mk rfl) (.cons (.mk rfl) (.cons (.mk rfl) (.cons (.mk rfl) .nil)))) rfl ?_
 rintro v203 _ ⟨w16, x16, rfl, hX16o, hx16E, hx16w, rfl⟩
 refine St.app3 ?_
 obtain ⟨X16, hX16⟩ : ∃ X : List LexD, X = X15 ++ [x16] := ⟨_, rfl⟩
 rw [← hX16]
 have hX16w : ∀ x ∈ X16, lexR.wf x := by rw [hX16]; exact fun x hx => (List.mem_append.1 hx).elim (hX15w x) fun q => by rw [List.mem_singleton.1 q]; exact hx16w
 have hX16E : X16.map lxE = smLexes.take 16 := by rw [hX16, List.map_append, hX15E, List.map_cons, List.map_nil, hx16E]; rfl
 have hX16l : X16.length = 16 := by rw [hX16, List.length_append, hX15l]; rfl
 refine St.subl [blk b5 (.cells [tv.1, (.slice (some ⟨b23, 0, none⟩) 5 5), rv, w16, (.slice none 0 0)].toArray 32 (0, 0)), row w16 82 9 (X16).length (rows lexR (X16)), dat (dall lexD X16), dat (sl ruleR rv rls), dat (dall ruleD rls), dat (sl tyR tv.1 ts), dat (dall tyD ts), dat (sl featR (.slice (some ⟨b23, 0, none⟩) 5 5) smFeats), blk b4 (.cells [sv xr.base, xr.av.1].toArray 77 (0, 0)), dat (isSim (fn0 (.mk [101] []) (fn0 (.mk [101] []) (.mk [116] []))) (simV xr)), blk b3 (.cells [sv xp.base, xp.av.1].toArray 77 (0, 0)), dat (isSim (fn0 (.mk [101] []) (.mk [116] [])) (simV xp)), blk b2 (.cells [sv xt.base, xt.av.1].toArray 77 (0, 0)), blk b1 (.cells [sv xe.base, xe.av.1].toArray 77 (0, 0)), dat (isSim (.mk [116] []) (simV xt)), dat (isSim (.mk [101] []) (simV xe)), blk b0 (.cells [(.slice none 0 0), (.slice none 0 0), (.slice none 0 0), (.slice none 0 0), (.slice none 0 0)].toArray 32 (0, 0))] (by repeat (first | exact List.Sublist.slnil | with_reducible refine List.Sublist.cons_cons _ ?_ | refine List.Sublist.cons _ ?_)) ?_
 refine St.nil (St.then_normal (St.seq (St.rg ?_)))
 refine St.mv ?_
 refine St.ev _ (Ev.ldbA (.mk rfl) Tryd.underlying77 trivial (by exact sz77)) rfl ?_
 refine St.calld (con_spec [115, 101, 101] (by decide) (simV xr) (fn0 (.mk [101] []) (fn0 (.mk [101] []) (.mk [116] [])))) cb32 (.cons (.mk rfl) (.cons (.mk rfl) .nil)) rfl ?_
 rintro v206 _ rfl
 refine St.app1 ?_
 refine St.bsl rfl (.cons (.mk rfl) (.cons (.mk rfl) (.cons (.mk rfl) .nil))) Tryd.underlying57 sz3 zv3 rfl rfl (by simp [Value.cells]) rfl rfl (fun b207 => ?_)
 refine St.publish (.slice (some ⟨b207, 0, none⟩) 3 3) intR [12, 4, 1] rfl rfl (wfI (by decide)) ?_
 refine St.bsl rfl (.cons (.mk rfl) .nil) Tryd.underlying57 sz3 zv3 rfl rfl (by simp [Value.cells]) rfl rfl (fun b208 => ?_)
 refine St.publish (.slice (some ⟨b208, 0, none⟩) 1 1) intR [5] rfl rfl (wfI (by decide)) ?_
 refine St.bsl rfl (.cons (.mk rfl) (.cons (.mk rfl) .nil)) Tryd.underlying40 sz57 zv57 rfl rfl (by simp [Value.cells]) rfl rfl (fun b209 => ?_)
 refine St.publish (.slice (some ⟨b209, 0, none⟩) 2 2) valR [⟨(.slice (some ⟨b207, 0, none⟩) 3 3), rfl⟩, ⟨(.slice (some ⟨b208, 0, none⟩) 1 1), rfl⟩] (show _ = rows valR [⟨(.slice (some ⟨b207, 0, none⟩) 3 3), rfl⟩, ⟨(.slice (some ⟨b208, 0, none⟩) 1 1), rfl⟩] by simp only [List.flatMap_cons, List.flatMap_nil, Value.cells]; rfl) rfl (fun _ _ => trivial) ?_
 refine nsl_of intR (.slice (some ⟨b209, 0, none⟩) 2 2) [⟨(.slice (some ⟨b207, 0, none⟩) 3 3), rfl⟩, ⟨(.slice (some ⟨b208, 0, none⟩) 1 1), rfl⟩] [[12, 4, 1], [5]] [sl intR (.slice (some ⟨b207, 0, none⟩) 3 3) [12, 4, 1], sl intR (.slice (some ⟨b208, 0, none⟩) 1 1) [5]] rfl rfl ?_
 refine St.toNsl (Rr := intR) (xs := [[12, 4, 1], [5]]) (.slice (some ⟨b209, 0, none⟩) 2 2) rfl ?_
 refine St.callc (add_spec b5 tv.1 (.slice (some ⟨b23, 0, none⟩) 5 5) rv (.slice none 0 0) w16 X16 [115, 101, 101] 1 v206 (.slice (some ⟨b209, 0, none⟩) 2 2) (con0 [115, 101, 101] (fn0 (.mk [101] []) (fn0 (.mk [101] []) (.mk [116] [])))) [[12, 4, 1], [5]] (by decide) (by unfold i64ok; decide) hX16o (by omega) hX16w (by decide) (by decide)) cb30 (.mk rfl) (.cons (.mk rfl) (.cons (.mk rfl) (.cons (.mk rfl) (.cons (.mk rfl) .nil)))) rfl ?_
 rintro v210 _ ⟨w17, x17, rfl, hX17o, hx17E, hx17w, rfl⟩
 refine St.app3 ?_
 obtain ⟨X17, hX17⟩ : ∃ X : List LexD, X = X16 ++ [x17] := ⟨_, rfl⟩
 rw [← hX17]
 have hX17w : ∀ x ∈ X17, lexR.wf x := by rw [hX17]; exact fun x hx => (List.mem_append.1 hx).elim (hX16w x) fun q => by rw [List.mem_singleton.1 q]; exact hx17w
 have hX17E : X17.map lxE = smLexes.take 17 := by rw [hX17, List.map_append, hX16E, List.map_cons, List.map_nil, hx17E]; rfl
 have hX17l : X17.length = 17 := by rw [hX17, List.length_append, hX16l]; rfl
 refine St.subl [blk b5 (.cells [tv.1, (.slice (some ⟨b23, 0, none⟩) 5 5), rv, w17, (.slice none 0 0)].toArray 32 (0, 0)), row w17 82 9 (X17).length (rows lexR (X17)), dat (dall lexD X17), dat (sl ruleR rv rls), dat (dall ruleD rls), dat (sl tyR tv.1 ts), dat (dall tyD ts), dat (sl featR (.slice (some ⟨b23, 0, none⟩) 5 5) smFeats), blk b4 (.cells [sv xr.base, xr.av.1].toArray 77 (0, 0)), dat (isSim (fn0 (.mk [101] []) (fn0 (.mk [101] []) (.mk [116] []))) (simV xr)), blk b3 (.cells [sv xp.base, xp.av.1].toArray 77 (0, 0)), dat (isSim (fn0 (.mk [101] []) (.mk [116] [])) (simV xp)), blk b2 (.cells [sv xt.base, xt.av.1].toArray 77 (0, 0)), blk b1 (.cells [sv xe.base, xe.av.1].toArray 77 (0, 0)), dat (isSim (.mk [116] []) (simV xt)), dat (isSim (.mk [101] []) (simV xe)), blk b0 (.cells [(.slice none 0 0), (.slice none 0 0), (.slice none 0 0), (.slice none 0 0), (.slice none 0 0)].toArray 32 (0, 0))] (by repeat (first | exact List.Sublist.slnil | with_reducible refine List.Sublist.cons_cons _ ?_ | refine List.Sublist.cons _ ?_)) ?_
 refine St.nil (St.then_normal (St.seq (St.rg ?_)))
 refine St.mv ?_
 refine St.ev _ (Ev.ldbA (.mk rfl) Tryd.underlying77 trivial (by exact sz77)) rfl ?_
 refine St.ev _ (Ev.ldbA (.mk rfl) Tryd.underlying77 trivial (by exact sz77)) rfl ?_
 refine St.calld (fun_spec (simV xt) (simV xt) (.mk [116] []) (.mk [116] [])) cb26 (.cons (.mk rfl) (.cons (.mk rfl) .nil)) rfl ?_
 rintro v214 _ rfl
 refine St.app1 ?_
 refine St.calld (con_spec [110, 111, 116] (by decide) v214 (fn0 (.mk [116] []) (.mk [116] []))) cb32 (.cons (.mk rfl) (.cons (.mk rfl) .nil)) rfl ?_
 rintro v215 _ rfl
 refine St.app1 ?_
 refine St.bsl rfl (.cons (.mk rfl) .nil) Tryd.underlying57 sz3 zv3 rfl rfl (by simp [Value.cells]) rfl rfl (fun b216 => ?_)
 refine St.publish (.slice (some ⟨b216, 0, none⟩) 1 1) intR [13] rfl rfl (wfI (by decide)) ?_
 refine St.bsl rfl (.cons (.mk rfl) .nil) Tryd.underlying40 sz57 zv57 rfl rfl (by simp [Value.cells]) rfl rfl (fun b217 => ?_)
 refine St.publish (.slice (some ⟨b217, 0, none⟩) 1 1) valR [⟨(.slice (some ⟨b216, 0, none⟩) 1 1), rfl⟩] (show _ = rows valR [⟨(.slice (some ⟨b216, 0, none⟩) 1 1), rfl⟩] by simp only [List.flatMap_cons, List.flatMap_nil, Value.cells]; rfl) rfl (fun _ _ => trivial) ?_
 refine nsl_of intR (.slice (some ⟨b217, 0, none⟩) 1 1) [⟨(.slice (some ⟨b216, 0, none⟩) 1 1), rfl⟩] [[13]] [sl intR (.slice (some ⟨b216, 0, none⟩) 1 1) [13]] rfl rfl ?_
 refine St.toNsl (Rr := intR) (xs := [[13]]) (.slice (some ⟨b217, 0, none⟩) 1 1) rfl ?_
 refine St.callc (add_spec b5 tv.1 (.slice (some ⟨b23, 0, none⟩) 5 5) rv (.slice none 0 0) w17 X17 [110, 111, 116] 0 v215 (.slice (some ⟨b217, 0, none⟩) 1 1) (con0 [110, 111, 116] (fn0 (.mk [116] []) (.mk [116] []))) [[13]] (by decide) (by unfold i64ok; decide) hX17o (by omega) hX17w (by decide) (by decide)) cb30 (.mk rfl) (.cons (.mk rfl) (.cons (.mk rfl) (.cons (.mk rfl) (.cons (.mk rfl) .nil)))) rfl ?_
 rintro v218 _ ⟨w18, x18, rfl, hX18o, hx18E, hx18w, rfl⟩
 refine St.app3 ?_
 obtain ⟨X18, hX18⟩ : ∃ X : List LexD, X = X17 ++ [x18] := ⟨_, rfl⟩
 rw [← hX18]
 have hX18w : ∀ x ∈ X18, lexR.wf x := by rw [hX18]; exact fun x hx => (List.mem_append.1 hx).elim (hX17w x) fun q => by rw [List.mem_singleton.1 q]; exact hx18w
 have hX18E : X18.map lxE = smLexes.take 18 := by rw [hX18, List.map_append, hX17E, List.map_cons, List.map_nil, hx18E]; rfl
 have hX18l : X18.length = 18 := by rw [hX18, List.length_append, hX17l]; rfl
 refine St.subl [blk b5 (.cells [tv.1, (.slice (some ⟨b23, 0, none⟩) 5 5), rv, w18, (.slice none 0 0)].toArray 32 (0, 0)), row w18 82 9 (X18).length (rows lexR (X18)), dat (dall lexD X18), dat (sl ruleR rv rls), dat (dall ruleD rls), dat (sl tyR tv.1 ts), dat (dall tyD ts), dat (sl featR (.slice (some ⟨b23, 0, none⟩) 5 5) smFeats), blk b4 (.cells [sv xr.base, xr.av.1].toArray 77 (0, 0)), dat (isSim (fn0 (.mk [101] []) (fn0 (.mk [101] []) (.mk [116] []))) (simV xr)), blk b3 (.cells [sv xp.base, xp.av.1].toArray 77 (0, 0)), dat (isSim (fn0 (.mk [101] []) (.mk [116] [])) (simV xp)), blk b2 (.cells [sv xt.base, xt.av.1].toArray 77 (0, 0)), blk b1 (.cells [sv xe.base, xe.av.1].toArray 77 (0, 0)), dat (isSim (.mk [116] []) (simV xt)), dat (isSim (.mk [101] []) (simV xe)), blk b0 (.cells [(.slice none 0 0), (.slice none 0 0), (.slice none 0 0), (.slice none 0 0), (.slice none 0 0)].toArray 32 (0, 0))] (by repeat (first | exact List.Sublist.slnil | with_reducible refine List.Sublist.cons_cons _ ?_ | refine List.Sublist.cons _ ?_)) ?_
 refine St.nil (St.then_normal (St.seq ?_))
 refine St.bag 9 219 [] (⟨219, [], fun u => eqD u (.func (.func 30) #[] #[.pointer (some ⟨b5, 0, none⟩)])⟩::⟨220, [], fun u => eqD u ((simV xt))⟩::⟨221, [], fun u => eqD u ((simV xt))⟩::⟨222, [], fun u => eqD u ((simV xt))⟩::⟨223, [2, 3], fun u => isSim (fn0 (.mk [116] []) (.mk [116] [])) u⟩::⟨224, [1, 4], fun u => isSim (fn0 (.mk [116] []) (fn0 (.mk [116] []) (.mk [116] []))) u⟩::⟨225, [5], fun u => isTerm (con0 [97, 110, 100] (fn0 (.mk [116] []) (fn0 (.mk [116] []) (.mk [116] [])))) u⟩::⟨226, [], fun u => isSl intR [14] u⟩::⟨227, [7], fun u => isNsl intR [[14]] u⟩::[]) ((219, [])::(220, [])::(221, [])::(222, [])::(223, [2, 3])::(224, [1, 4])::(225, [5])::(226, [])::(227, [7])::[]) [0, 6, 8] rfl rfl mixed (by kernel_rfl) (by kernel_rfl) (by rfl) (fun e => [(219, e 0), (225, e 6), (227, e 8)]) (fun e => [dat (eqD (e 0) (.func (.func 30) #[] #[.pointer (some ⟨b5, 0, none⟩)])), dat (isTerm (con0 [97, 110, 100] (fn0 (.mk [116] []) (fn0 (.mk [116] []) (.mk [116] [])))) (e 6)), dat (isNsl intR [[14]] (e 8))]) (fun _ => rfl) (fun _ => rfl) ?_ (fun e => ?_)
 ·skip
  refine Hops.cons (Hop.mk (fun e => []) (fun e => []) (fun _ => rfl) (fun _ => rfl) (fun c e hdr2 => ?_)) ?_
  ·skip
   refine St.app0 ?_
   refine St.mv ?_
   refine St.fact (eqD (.func (.func 30) #[] #[.pointer (some ⟨b5, 0, none⟩)]) (.func (.func 30) #[] #[.pointer (some ⟨b5, 0, none⟩)])) (fun _ _ _ => rfl) ?_
   refine St.nil (St.then_normal ?_)
   exact St.bagged _ rfl _ rfl
  refine Hops.cons (Hop.mk (fun e => []) (fun e => []) (fun _ => rfl) (fun _ => rfl) (fun c e hdr2 => ?_)) ?_
  ·skip
   refine St.app0 ?_
   refine St.ev _ (Ev.ldbA (.mk rfl) Tryd.underlying77 trivial (by exact sz77)) rfl ?_
   refine St.fact (eqD ((simV xt)) ((simV xt))) (fun _ _ _ => rfl) ?_
   refine St.nil (St.then_normal ?_)
   exact St.bagged _ rfl _ rfl
  refine Hops.cons (Hop.mk (fun e => []) (fun e => []) (fun _ => rfl) (fun _ => rfl) (fun c e hdr2 => ?_)) ?_
  ·skip
   refine St.app0 ?_
   refine St.ev _ (Ev.ldbA (.mk rfl) Tryd.underlying77 trivial (by exact sz77)) rfl ?_
   refine St.fact (eqD ((simV xt)) ((simV xt))) (fun _ _ _ => rfl) ?_
   refine St.nil (St.then_normal ?_)
   exact St.bagged _ rfl _ rfl
  refine Hops.cons (Hop.mk (fun e => []) (fun e => []) (fun _ => rfl) (fun _ => rfl) (fun c e hdr2 => ?_)) ?_
  ·skip
   refine St.app0 ?_
   refine St.ev _ (Ev.ldbA (.mk rfl) Tryd.underlying77 trivial (by exact sz77)) rfl ?_
   refine St.fact (eqD ((simV xt)) ((simV xt))) (fun _ _ _ => rfl) ?_
   refine St.nil (St.then_normal ?_)
   exact St.bagged _ rfl _ rfl
  refine Hops.cons (Hop.mk (fun e => [(221, e 2), (222, e 3)]) (fun e => [dat (eqD (e 2) ((simV xt))), dat (eqD (e 3) ((simV xt)))]) (fun _ => rfl) (fun _ => rfl) (fun c e hdr2 => ?_)) ?_
  ·skip
   refine St.app2 ?_
   refine St.eqSlot (P := Tryd.prog) 221 (e 2) ((simV xt)) rfl ?_
   refine St.eqSlot (P := Tryd.prog) 222 (e 3) ((simV xt)) rfl ?_
   refine St.calld (fun_spec (simV xt) (simV xt) (.mk [116] []) (.mk [116] [])) cb26 (.cons (.mk rfl) (.cons (.mk rfl) .nil)) rfl ?_
   rintro v223 _ rfl
   refine St.app1 ?_
   refine St.nil (St.then_normal ?_)
   exact St.bagged _ rfl _ rfl
  refine Hops.cons (Hop.mk (fun e => [(220, e 1), (223, e 4)]) (fun e => [dat (eqD (e 1) ((simV xt))), dat (isSim (fn0 (.mk [116] []) (.mk [116] [])) (e 4))]) (fun _ => rfl) (fun _ => rfl) (fun c e hdr2 => ?_)) ?_
  ·skip
   refine St.app2 ?_
   refine St.eqSlot (P := Tryd.prog) 220 (e 1) ((simV xt)) rfl ?_
   refine St.calld (fun_spec (simV xt) (e 4) (.mk [116] []) (fn0 (.mk [116] []) (.mk [116] []))) cb26 (.cons (.mk rfl) (.cons (.mk rfl) .nil)) rfl ?_
   rintro v224 _ rfl
   refine St.app1 ?_
   refine St.nil (St.then_normal ?_)
   exact St.bagged _ rfl _ rfl
  refine Hops.cons (Hop.mk (fun e => [(224, e 5)]) (fun e => [dat (isSim (fn0 (.mk [116] []) (fn0 (.mk [116] []) (.mk [116] []))) (e 5))]) (fun _ => rfl) (fun _ => rfl) (fun c e hdr2 => ?_)) ?_
  ·skip
   refine St.app1 ?_
   refine St.calld (con_spec [97, 110, 100] (by decide) (e 5) (fn0 (.mk [116] []) (fn0 (.mk [116] []) (.mk [116] [])))) cb32 (.cons (.mk rfl) (.cons (.mk rfl) .nil)) rfl ?_
   rintro v225 _ rfl
   refine St.app1 ?_
   refine St.nil (St.then_normal ?_)
   exact St.bagged _ rfl _ rfl
  refine Hops.cons (Hop.mk (fun e => []) (fun e => []) (fun _ => rfl) (fun _ => rfl) (fun c e hdr2 => ?_)) ?_
  ·skip
   refine St.app0 ?_
   refine St.bsl rfl (.cons (.mk rfl) .nil) Tryd.underlying57 sz3 zv3 rfl rfl (by simp [Value.cells]) rfl rfl (fun b226 => ?_)
   refine St.publish (.slice (some ⟨b226, 0, none⟩) 1 1) intR [14] rfl rfl (wfI (by decide)) ?_
   refine St.toSl (Rr := intR) (xs := [14]) (.slice (some ⟨b226, 0, none⟩) 1 1) rfl ?_
   refine St.nil (St.then_normal ?_)
   exact St.bagged _ rfl _ rfl
  refine Hops.cons (Hop.mk (fun e => [(226, e 7)]) (fun e => [dat (isSl intR [14] (e 7))]) (fun _ => rfl) (fun _ => rfl) (fun c e hdr2 => ?_)) ?_
  ·skip
   refine St.app1 ?_
   refine St.isSl intR [14] (e 7) (fun h226 => ?_)
   refine St.bsl rfl (.cons (.mk rfl) .nil) Tryd.underlying40 sz57 zv57 rfl rfl (by simp [J.cells_one h226]) rfl rfl (fun b227 => ?_)
   refine St.publish (.slice (some ⟨b227, 0, none⟩) 1 1) valR [⟨(e 7), h226⟩] (show _ = rows valR [⟨(e 7), h226⟩] by simp only [List.flatMap_cons, List.flatMap_nil, J.cells_one h226]; rfl) rfl (fun _ _ => trivial) ?_
   refine nsl_of intR (.slice (some ⟨b227, 0, none⟩) 1 1) [⟨(e 7), h226⟩] [[14]] [sl intR (e 7) [14]] rfl rfl ?_
   refine St.toNsl (Rr := intR) (xs := [[14]]) (.slice (some ⟨b227, 0, none⟩) 1 1) rfl ?_
   refine St.nil (St.then_normal ?_)
   exact St.bagged _ rfl _ rfl
  exact Hops.nil
 refine St.app3 ?_
 refine St.eqSlot (P := Tryd.prog) 219 (e 0) (.func (.func 30) #[] #[.pointer (some ⟨b5, 0, none⟩)]) rfl ?_
 refine St.callc (add_spec b5 tv.1 (.slice (some ⟨b23, 0, none⟩) 5 5) rv (.slice none 0 0) w18 X18 [97, 110, 100] 0 (e 6) (e 8) (con0 [97, 110, 100] (fn0 (.mk [116] []) (fn0 (.mk [116] []) (.mk [116] [])))) [[14]] (by decide) (by unfold i64ok; decide) hX18o (by omega) hX18w (by decide) (by decide)) cb30 (.mk rfl) (.cons (.mk rfl) (.cons (.mk rfl) (.cons (.mk rfl) (.cons (.mk rfl) .nil)))) rfl ?_
 rintro v228 _ ⟨w19, x19, rfl, hX19o, hx19E, hx19w, rfl⟩
 refine St.app3 ?_
 obtain ⟨X19, hX19⟩ : ∃ X : List LexD, X = X18 ++ [x19] := ⟨_, rfl⟩
 rw [← hX19]
 have hX19w : ∀ x ∈ X19, lexR.wf x := by rw [hX19]; exact fun x hx => (List.mem_append.1 hx).elim (hX18w x) fun q => by rw [List.mem_singleton.1 q]; exact hx19w
 have hX19E : X19.map lxE = smLexes.take 19 := by rw [hX19, List.map_append, hX18E, List.map_cons, List.map_nil, hx19E]; rfl
 have hX19l : X19.length = 19 := by rw [hX19, List.length_append, hX18l]; rfl
 refine St.subl [blk b5 (.cells [tv.1, (.slice (some ⟨b23, 0, none⟩) 5 5), rv, w19, (.slice none 0 0)].toArray 32 (0, 0)), row w19 82 9 (X19).length (rows lexR (X19)), dat (dall lexD X19), dat (sl ruleR rv rls), dat (dall ruleD rls), dat (sl tyR tv.1 ts), dat (dall tyD ts), dat (sl featR (.slice (some ⟨b23, 0, none⟩) 5 5) smFeats), blk b4 (.cells [sv xr.base, xr.av.1].toArray 77 (0, 0)), dat (isSim (fn0 (.mk [101] []) (fn0 (.mk [101] []) (.mk [116] []))) (simV xr)), blk b3 (.cells [sv xp.base, xp.av.1].toArray 77 (0, 0)), dat (isSim (fn0 (.mk [101] []) (.mk [116] [])) (simV xp)), blk b2 (.cells [sv xt.base, xt.av.1].toArray 77 (0, 0)), blk b1 (.cells [sv xe.base, xe.av.1].toArray 77 (0, 0)), dat (isSim (.mk [116] []) (simV xt)), dat (isSim (.mk [101] []) (simV xe)), blk b0 (.cells [(.slice none 0 0), (.slice none 0 0), (.slice none 0 0), (.slice none 0 0), (.slice none 0 0)].toArray 32 (0, 0))] (by repeat (first | exact List.Sublist.slnil | with_reducible refine List.Sublist.cons_cons _ ?_ | refine List.Sublist.cons _ ?_)) ?_
 refine St.nil (St.then_normal (St.seq ?_))
 refine St.bag 10 229 [] (⟨229, [], fun u => eqD u (.func (.func 30) #[] #[.pointer (some ⟨b5, 0, none⟩)])⟩::⟨230, [], fun u => eqD u ((simV xp))⟩::⟨231, [], fun u => isTerm (bd0 0) u⟩::⟨232, [], fun u => eqD u ((simV xe))⟩::⟨233, [3], fun u => isTerm (con0 [114, 101, 120] (.mk [101] [])) u⟩::⟨234, [2, 4], fun u => isTerm (app0 (bd0 0) (con0 [114, 101, 120] (.mk [101] []))) u⟩::⟨235, [1, 5], fun u => isTerm (abs0 (fn0 (.mk [101] []) (.mk [116] [])) (app0 (bd0 0) (con0 [114, 101, 120] (.mk [101] [])))) u⟩::⟨236, [], fun u => isSl intR [7, 4, 1] u⟩::⟨237, [], fun u => isSl intR [4] u⟩::⟨238, [7, 8], fun u => isNsl intR [[7, 4, 1], [4]] u⟩::[]) ((229, [])::(230, [])::(231, [])::(232, [])::(233, [3])::(234, [2, 4])::(235, [1, 5])::(236, [])::(237, [])::(238, [7, 8])::[]) [0, 6, 9] rfl rfl mixed (by kernel_rfl) (by kernel_rfl) (by rfl) (fun e => [(229, e 0), (235, e 6), (238, e 9)]) (fun e => [dat (eqD (e 0) (.func (.func 30) #[] #[.pointer (some ⟨b5, 0, none⟩)])), dat (isTerm (abs0 (fn0 (.mk [101] []) (.mk [116] [])) (app0 (bd0 0) (con0 [114, 101, 120] (.mk [101] [])))) (e 6)), dat (isNsl intR [[7, 4, 1], [4]] (e 9))]) (fun _ => rfl) (fun _ => rfl) ?_ (fun e => ?_)
 ·skip
  refine Hops.cons (Hop.mk (fun e => []) (fun e => []) (fun _ => rfl) (fun _ => rfl) (fun c e hdr2 => ?_)) ?_
  ·skip
   refine St.app0 ?_
   refine St.mv ?_
   refine St.fact (eqD (.func (.func 30) #[] #[.pointer (some ⟨b5, 0, none⟩)]) (.func (.func 30) #[] #[.pointer (some ⟨b5, 0, none⟩)])) (fun _ _ _ => rfl) ?_
   refine St.nil (St.then_normal ?_)
   exact St.bagged _ rfl _ rfl
  refine Hops.cons (Hop.mk (fun e => []) (fun e => []) (fun _ => rfl) (fun _ => rfl) (fun c e hdr2 => ?_)) ?_
  ·skip
   refine St.app0 ?_
   refine St.ev _ (Ev.ldbA (.mk rfl) Tryd.underlying77 trivial (by exact sz77)) rfl ?_
   refine St.fact (eqD ((simV xp)) ((simV xp))) (fun _ _ _ => rfl) ?_
   refine St.nil (St.then_normal ?_)
   exact St.bagged _ rfl _ rfl
  refine Hops.cons (Hop.mk (fun e => []) (fun e => []) (fun _ => rfl) (fun _ => rfl) (fun c e hdr2 => ?_)) ?_
  ·skip
   refine St.app0 ?_
   refine St.calld (bound_spec 0 (by unfold i64ok; decide)) cb35 (.cons (.mk rfl) .nil) rfl ?_
   rintro v231 _ rfl
   refine St.app1 ?_
   refine St.nil (St.then_normal ?_)
   exact St.bagged _ rfl _ rfl
  refine Hops.cons (Hop.mk (fun e => []) (fun e => []) (fun _ => rfl) (fun _ => rfl) (fun c e hdr2 => ?_)) ?_
  ·skip
   refine St.app0 ?_
   refine St.ev _ (Ev.ldbA (.mk rfl) Tryd.underlying77 trivial (by exact sz77)) rfl ?_
   refine St.fact (eqD ((simV xe)) ((simV xe))) (fun _ _ _ => rfl) ?_
   refine St.nil (St.then_normal ?_)
   exact St.bagged _ rfl _ rfl
  refine Hops.cons (Hop.mk (fun e => [(232, e 3)]) (fun e => [dat (eqD (e 3) ((simV xe)))]) (fun _ => rfl) (fun _ => rfl) (fun c e hdr2 => ?_)) ?_
  ·skip
   refine St.app1 ?_
   refine St.eqSlot (P := Tryd.prog) 232 (e 3) ((simV xe)) rfl ?_
   refine St.calld (con_spec [114, 101, 120] (by decide) (simV xe) (.mk [101] [])) cb32 (.cons (.mk rfl) (.cons (.mk rfl) .nil)) rfl ?_
   rintro v233 _ rfl
   refine St.app1 ?_
   refine St.nil (St.then_normal ?_)
   exact St.bagged _ rfl _ rfl
  refine Hops.cons (Hop.mk (fun e => [(231, e 2), (233, e 4)]) (fun e => [dat (isTerm (bd0 0) (e 2)), dat (isTerm (con0 [114, 101, 120] (.mk [101] [])) (e 4))]) (fun _ => rfl) (fun _ => rfl) (fun c e hdr2 => ?_)) ?_
  ·skip
   refine St.app2 ?_
   refine St.calld (app_spec (e 2) (e 4) (bd0 0) (con0 [114, 101, 120] (.mk [101] []))) cb34 (.cons (.mk rfl) (.cons (.mk rfl) .nil)) rfl ?_
   rintro v234 _ rfl
   refine St.app1 ?_
   refine St.nil (St.then_normal ?_)
   exact St.bagged _ rfl _ rfl
  refine Hops.cons (Hop.mk (fun e => [(230, e 1), (234, e 5)]) (fun e => [dat (eqD (e 1) ((simV xp))), dat (isTerm (app0 (bd0 0) (con0 [114, 101, 120] (.mk [101] []))) (e 5))]) (fun _ => rfl) (fun _ => rfl) (fun c e hdr2 => ?_)) ?_
  ·skip
   refine St.app2 ?_
   refine St.eqSlot (P := Tryd.prog) 230 (e 1) ((simV xp)) rfl ?_
   refine St.calld (abs_spec (simV xp) (e 5) (fn0 (.mk [101] []) (.mk [116] [])) (app0 (bd0 0) (con0 [114, 101, 120] (.mk [101] [])))) cb33 (.cons (.mk rfl) (.cons (.mk rfl) .nil)) rfl ?_
   rintro v235 _ rfl
   refine St.app1 ?_
   refine St.nil (St.then_normal ?_)
   exact St.bagged _ rfl _ rfl
  refine Hops.cons (Hop.mk (fun e => []) (fun e => []) (fun _ => rfl) (fun _ => rfl) (fun c e hdr2 => ?_)) ?_
  ·skip
   refine St.app0 ?_
   refine St.bsl rfl (.cons (.mk rfl) (.cons (.mk rfl) (.cons (.mk rfl) .nil))) Tryd.underlying57 sz3 zv3 rfl rfl (by simp [Value.cells]) rfl rfl (fun b236 => ?_)
   refine St.publish (.slice (some ⟨b236, 0, none⟩) 3 3) intR [7, 4, 1] rfl rfl (wfI (by decide)) ?_
   refine St.toSl (Rr := intR) (xs := [7, 4, 1]) (.slice (some ⟨b236, 0, none⟩) 3 3) rfl ?_
   refine St.nil (St.then_normal ?_)
   exact St.bagged _ rfl _ rfl
  refine Hops.cons (Hop.mk (fun e => []) (fun e => []) (fun _ => rfl) (fun _ => rfl) (fun c e hdr2 => ?_)) ?_
  ·skip
   refine St.app0 ?_
   refine St.bsl rfl (.cons (.mk rfl) .nil) Tryd.underlying57 sz3 zv3 rfl rfl (by simp [Value.cells]) rfl rfl (fun b237 => ?_)
   refine St.publish (.slice (some ⟨b237, 0, none⟩) 1 1) intR [4] rfl rfl (wfI (by decide)) ?_
   refine St.toSl (Rr := intR) (xs := [4]) (.slice (some ⟨b237, 0, none⟩) 1 1) rfl ?_
   refine St.nil (St.then_normal ?_)
   exact St.bagged _ rfl _ rfl
  refine Hops.cons (Hop.mk (fun e => [(236, e 7), (237, e 8)]) (fun e => [dat (isSl intR [7, 4, 1] (e 7)), dat (isSl intR [4] (e 8))]) (fun _ => rfl) (fun _ => rfl) (fun c e hdr2 => ?_)) ?_
  ·skip
   refine St.app2 ?_
   refine St.isSl intR [7, 4, 1] (e 7) (fun h236 => ?_)
   refine St.isSl intR [4] (e 8) (fun h237 => ?_)
   refine St.bsl rfl (.cons (.mk rfl) (.cons (.mk rfl) .nil)) Tryd.underlying40 sz57 zv57 rfl rfl (by simp [J.cells_one h236, J.cells_one h237]) rfl rfl (fun b238 => ?_)
   refine St.publish (.slice (some ⟨b238, 0, none⟩) 2 2) valR [⟨(e 7), h236⟩, ⟨(e 8), h237⟩] (show _ = rows valR [⟨(e 7), h236⟩, ⟨(e 8), h237⟩] by simp only [List.flatMap_cons, List.flatMap_nil, J.cells_one h236, J.cells_one h237]; rfl) rfl (fun _ _ => trivial) ?_
   refine nsl_of intR (.slice (some ⟨b238, 0, none⟩) 2 2) [⟨(e 7), h236⟩, ⟨(e 8), h237⟩] [[7, 4, 1], [4]] [sl intR (e 7) [7, 4, 1], sl intR (e 8) [4]] rfl rfl ?_
   refine St.toNsl (Rr := intR) (xs := [[7, 4, 1], [4]]) (.slice (some ⟨b238, 0, none⟩) 2 2) rfl ?_
   refine St.nil (St.then_normal ?_)
   exact St.bagged _ rfl _ rfl
  exact Hops.nil
 refine St.app3 ?_
 refine St.eqSlot (P := Tryd.prog) 229 (e 0) (.func (.func 30) #[] #[.pointer (some ⟨b5, 0, none⟩)]) rfl ?_
 refine St.callc (add_spec b5 tv.1 (.slice (some ⟨b23, 0, none⟩) 5 5) rv (.slice none 0 0) w19 X19 [114, 101, 120] 0 (e 6) (e 9) (abs0 (fn0 (.mk [101] []) (.mk [116] [])) (app0 (bd0 0) (con0 [114, 101, 120] (.mk [101] [])))) [[7, 4, 1], [4]] (by decide) (by unfold i64ok; decide) hX19o (by omega) hX19w (by decide) (by decide)) cb30 (.mk rfl) (.cons (.mk rfl) (.cons (.mk rfl) (.cons (.mk rfl) (.cons (.mk rfl) .nil)))) rfl ?_
 rintro v239 _ ⟨w20, x20, rfl, hX20o, hx20E, hx20w, rfl⟩
 refine St.app3 ?_
 obtain ⟨X20, hX20⟩ : ∃ X : List LexD, X = X19 ++ [x20] := ⟨_, rfl⟩
 rw [← hX20]
 have hX20w : ∀ x ∈ X20, lexR.wf x := by rw [hX20]; exact fun x hx => (List.mem_append.1 hx).elim (hX19w x) fun q => by rw [List.mem_singleton.1 q]; exact hx20w
 have hX20E : X20.map lxE = smLexes.take 20 := by rw [hX20, List.map_append, hX19E, List.map_cons, List.map_nil, hx20E]; rfl
 have hX20l : X20.length = 20 := by rw [hX20, List.length_append, hX19l]; rfl
 refine St.subl [blk b5 (.cells [tv.1, (.slice (some ⟨b23, 0, none⟩) 5 5), rv, w20, (.slice none 0 0)].toArray 32 (0, 0)), row w20 82 9 (X20).length (rows lexR (X20)), dat (dall lexD X20), dat (sl ruleR rv rls), dat (dall ruleD rls), dat (sl tyR tv.1 ts), dat (dall tyD ts), dat (sl featR (.slice (some ⟨b23, 0, none⟩) 5 5) smFeats), blk b4 (.cells [sv xr.base, xr.av.1].toArray 77 (0, 0)), dat (isSim (fn0 (.mk [101] []) (fn0 (.mk [101] []) (.mk [116] []))) (simV xr)), blk b3 (.cells [sv xp.base, xp.av.1].toArray 77 (0, 0)), dat (isSim (fn0 (.mk [101] []) (.mk [116] [])) (simV xp)), blk b2 (.cells [sv xt.base, xt.av.1].toArray 77 (0, 0)), blk b1 (.cells [sv xe.base, xe.av.1].toArray 77 (0, 0)), dat (isSim (.mk [116] []) (simV xt)), dat (isSim (.mk [101] []) (simV xe)), blk b0 (.cells [(.slice none 0 0), (.slice none 0 0), (.slice none 0 0), (.slice none 0 0), (.slice none 0 0)].toArray 32 (0, 0))] (by repeat (first | exact List.Sublist.slnil | with_reducible refine List.Sublist.cons_cons _ ?_ | refine List.Sublist.cons _ ?_)) ?_
 refine St.nil (St.then_normal (St.seq ?_))
 refine St.bag 10 240 [] (⟨240, [], fun u => eqD u (.func (.func 30) #[] #[.pointer (some ⟨b5, 0, none⟩)])⟩::⟨241, [], fun u => eqD u ((simV xp))⟩::⟨242, [], fun u => isTerm (bd0 0) u⟩::⟨243, [], fun u => eqD u ((simV xe))⟩::⟨244, [3], fun u => isTerm (con0 [109, 105, 97] (.mk [101] [])) u⟩::⟨245, [2, 4], fun u => isTerm (app0 (bd0 0) (con0 [109, 105, 97] (.mk [101] []))) u⟩::⟨246, [1, 5], fun u => isTerm (abs0 (fn0 (.mk [101] []) (.mk [116] [])) (app0 (bd0 0) (con0 [109, 105, 97] (.mk [101] [])))) u⟩::⟨247, [], fun u => isSl intR [7, 4, 1] u⟩::⟨248, [], fun u => isSl intR [4] u⟩::⟨249, [7, 8], fun u => isNsl intR [[7, 4, 1], [4]] u⟩::[]) ((240, [])::(241, [])::(242, [])::(243, [])::(244, [3])::(245, [2, 4])::(246, [1, 5])::(247, [])::(248, [])::(249, [7, 8])::[]) [0, 6, 9] rfl rfl mixed (by kernel_rfl) (by kernel_rfl) (by rfl) (fun e => [(240, e 0), (246, e 6), (249, e 9)]) (fun e => [dat (eqD (e 0) (.func (.func 30) #[] #[.pointer (some ⟨b5, 0, none⟩)])), dat (isTerm (abs0 (fn0 (.mk [101] []) (.mk [116] [])) (app0 (bd0 0) (con0 [109, 105, 97] (.mk [101] [])))) (e 6)), dat (isNsl intR [[7, 4, 1], [4]] (e 9))]) (fun _ => rfl) (fun _ => rfl) ?_ (fun e => ?_)
 ·skip
  refine Hops.cons (Hop.mk (fun e => []) (fun e => []) (fun _ => rfl) (fun _ => rfl) (fun c e hdr2 => ?_)) ?_
  ·skip
   refine St.app0 ?_
   refine St.mv ?_
   refine St.fact (eqD (.func (.func 30) #[] #[.pointer (some ⟨b5, 0, none⟩)]) (.func (.func 30) #[] #[.pointer (some ⟨b5, 0, none⟩)])) (fun _ _ _ => rfl) ?_
   refine St.nil (St.then_normal ?_)
   exact St.bagged _ rfl _ rfl
  refine Hops.cons (Hop.mk (fun e => []) (fun e => []) (fun _ => rfl) (fun _ => rfl) (fun c e hdr2 => ?_)) ?_
  ·skip
   refine St.app0 ?_
   refine St.ev _ (Ev.ldbA (.mk rfl) Tryd.underlying77 trivial (by exact sz77)) rfl ?_
   refine St.fact (eqD ((simV xp)) ((simV xp))) (fun _ _ _ => rfl) ?_
   refine St.nil (St.then_normal ?_)
   exact St.bagged _ rfl _ rfl
  refine Hops.cons (Hop.mk (fun e => []) (fun e => []) (fun _ => rfl) (fun _ => rfl) (fun c e hdr2 => ?_)) ?_
  ·skip
   refine St.app0 ?_
   refine St.calld (bound_spec 0 (by unfold i64ok; decide)) cb35 (.cons (.mk rfl) .nil) rfl ?_
   rintro v242 _ rfl
   refine St.app1 ?_
   refine St.nil (St.then_normal ?_)
   exact St.bagged _ rfl _ rfl
  refine Hops.cons (Hop.mk (fun e => []) (fun e => []) (fun _ => rfl) (fun _ => rfl) (fun c e hdr2 => ?_)) ?_
  ·skip
   refine St.app0 ?_
   refine St.ev _ (Ev.ldbA (.mk rfl) Tryd.underlying77 trivial (by exact sz77)) rfl ?_
   refine St.fact (eqD ((simV xe)) ((simV xe))) (fun _ _ _ => rfl) ?_
   refine St.nil (St.then_normal ?_)
   exact St.bagged _ rfl _ rfl
  refine Hops.cons (Hop.mk (fun e => [(243, e 3)]) (fun e => [dat (eqD (e 3) ((simV xe)))]) (fun _ => rfl) (fun _ => rfl) (fun c e hdr2 => ?_)) ?_
  ·skip
   refine St.app1 ?_
   refine St.eqSlot (P := Tryd.prog) 243 (e 3) ((simV xe)) rfl ?_
   refine St.calld (con_spec [109, 105, 97] (by decide) (simV xe) (.mk [101] [])) cb32 (.cons (.mk rfl) (.cons (.mk rfl) .nil)) rfl ?_
   rintro v244 _ rfl
   refine St.app1 ?_
   refine St.nil (St.then_normal ?_)
   exact St.bagged _ rfl _ rfl
  refine Hops.cons (Hop.mk (fun e => [(242, e 2), (244, e 4)]) (fun e => [dat (isTerm (bd0 0) (e 2)), dat (isTerm (con0 [109, 105, 97] (.mk [101] [])) (e 4))]) (fun _ => rfl) (fun _ => rfl) (fun c e hdr2 => ?_)) ?_
  ·skip
   refine St.app2 ?_
   refine St.calld (app_spec (e 2) (e 4) (bd0 0) (con0 [109, 105, 97] (.mk [101] []))) cb34 (.cons (.mk rfl) (.cons (.mk rfl) .nil)) rfl ?_
   rintro v245 _ rfl
   refine St.app1 ?_
   refine St.nil (St.then_normal ?_)
   exact St.bagged _ rfl _ rfl
  refine Hops.cons (Hop.mk (fun e => [(241, e 1), (245, e 5)]) (fun e => [dat (eqD (e 1) ((simV xp))), dat (isTerm (app0 (bd0 0) (con0 [109, 105, 97] (.mk [101] []))) (e 5))]) (fun _ => rfl) (fun _ => rfl) (fun c e hdr2 => ?_)) ?_
  ·skip
   refine St.app2 ?_
   refine St.eqSlot (P := Tryd.prog) 241 (e 1) ((simV xp)) rfl ?_
   refine St.calld (abs_spec (simV xp) (e 5) (fn0 (.mk [101] []) (.mk [116] [])) (app0 (bd0 0) (con0 [109, 105, 97] (.mk [101] [])))) cb33 (.cons (.mk rfl) (.cons (.mk rfl) .nil)) rfl ?_
   rintro v246 _ rfl
   refine St.app1 ?_
   refine St.nil (St.then_normal ?_)
   exact St.bagged _ rfl _ rfl
  refine Hops.cons (Hop.mk (fun e => []) (fun e => []) (fun _ => rfl) (fun _ => rfl) (fun c e hdr2 => ?_)) ?_
  ·skip
   refine St.app0 ?_
   refine St.bsl rfl (.cons (.mk rfl) (.cons (.mk rfl) (.cons (.mk rfl) .nil))) Tryd.underlying57 sz3 zv3 rfl rfl (by simp [Value.cells]) rfl rfl (fun b247 => ?_)
   refine St.publish (.slice (some ⟨b247, 0, none⟩) 3 3) intR [7, 4, 1] rfl rfl (wfI (by decide)) ?_
   refine St.toSl (Rr := intR) (xs := [7, 4, 1]) (.slice (some ⟨b247, 0, none⟩) 3 3) rfl ?_
   refine St.nil (St.then_normal ?_)
   exact St.bagged _ rfl _ rfl
  refine Hops.cons (Hop.mk (fun e => []) (fun e => []) (fun _ => rfl) (fun _ => rfl) (fun c e hdr2 => ?_)) ?_
  ·skip
   refine St.app0 ?_
   refine St.bsl rfl (.cons (.mk rfl) .nil) Tryd.underlying57 sz3 zv3 rfl rfl (by simp [Value.cells]) rfl rfl (fun b248 => ?_)
   refine St.publish (.slice (some ⟨b248, 0, none⟩) 1 1) intR [4] rfl rfl (wfI (by decide)) ?_
   refine St.toSl (Rr := intR) (xs := [4]) (.slice (some ⟨b248, 0, none⟩) 1 1) rfl ?_
   refine St.nil (St.then_normal ?_)
   exact St.bagged _ rfl _ rfl
  refine Hops.cons (Hop.mk (fun e => [(247, e 7), (248, e 8)]) (fun e => [dat (isSl intR [7, 4, 1] (e 7)), dat (isSl intR [4] (e 8))]) (fun _ => rfl) (fun _ => rfl) (fun c e hdr2 => ?_)) ?_
  ·skip
   refine St.app2 ?_
   refine St.isSl intR [7, 4, 1] (e 7) (fun h247 => ?_)
   refine St.isSl intR [4] (e 8) (fun h248 => ?_)
   refine St.bsl rfl (.cons (.mk rfl) (.cons (.mk rfl) .nil)) Tryd.underlying40 sz57 zv57 rfl rfl (by simp [J.cells_one h247, J.cells_one h248]) rfl rfl (fun b249 => ?_)
   refine St.publish (.slice (some ⟨b249, 0, none⟩) 2 2) valR [⟨(e 7), h247⟩, ⟨(e 8), h248⟩] (show _ = rows valR [⟨(e 7), h247⟩, ⟨(e 8), h248⟩] by simp only [List.flatMap_cons, List.flatMap_nil, J.cells_one h247, J.cells_one h248]; rfl) rfl (fun _ _ => trivial) ?_
   refine nsl_of intR (.slice (some ⟨b249, 0, none⟩) 2 2) [⟨(e 7), h247⟩, ⟨(e 8), h248⟩] [[7, 4, 1], [4]] [sl intR (e 7) [7, 4, 1], sl intR (e 8) [4]] rfl rfl ?_
   refine St.toNsl (Rr := intR) (xs := [[7, 4, 1], [4]]) (.slice (some ⟨b249, 0, none⟩) 2 2) rfl ?_
   refine St.nil (St.then_normal ?_)
   exact St.bagged _ rfl _ rfl
  exact Hops.nil
 refine St.app3 ?_
 refine St.eqSlot (P := Tryd.prog) 240 (e 0) (.func (.func 30) #[] #[.pointer (some ⟨b5, 0, none⟩)]) rfl ?_
 refine St.callc (add_spec b5 tv.1 (.slice (some ⟨b23, 0, none⟩) 5 5) rv (.slice none 0 0) w20 X20 [109, 105, 97] 0 (e 6) (e 9) (abs0 (fn0 (.mk [101] []) (.mk [116] [])) (app0 (bd0 0) (con0 [109, 105, 97] (.mk [101] [])))) [[7, 4, 1], [4]] (by decide) (by unfold i64ok; decide) hX20o (by omega) hX20w (by decide) (by decide)) cb30 (.mk rfl) (.cons (.mk rfl) (.cons (.mk rfl) (.cons (.mk rfl) (.cons (.mk rfl) .nil)))) rfl ?_
 rintro v250 _ ⟨w21, x21, rfl, hX21o, hx21E, hx21w, rfl⟩
 refine St.app3 ?_
 obtain ⟨X21, hX21⟩ : ∃ X : List LexD, X = X20 ++ [x21] := ⟨_, rfl⟩
 rw [← hX21]
 have hX21w : ∀ x ∈ X21, lexR.wf x := by rw [hX21]; exact fun x hx => (List.mem_append.1 hx).elim (hX20w x) fun q => by rw [List.mem_singleton.1 q]; exact hx21w
 have hX21E : X21.map lxE = smLexes.take 21 := by rw [hX21, List.map_append, hX20E, List.map_cons, List.map_nil, hx21E]; rfl
 have hX21l : X21.length = 21 := by rw [hX21, List.length_append, hX20l]; rfl
 refine St.subl [blk b5 (.cells [tv.1, (.slice (some ⟨b23, 0, none⟩) 5 5), rv, w21, (.slice none 0 0)].toArray 32 (0, 0)), row w21 82 9 (X21).length (rows lexR (X21)), dat (dall lexD X21), dat (sl ruleR rv rls), dat (dall ruleD rls), dat (sl tyR tv.1 ts), dat (dall tyD ts), dat (sl featR (.slice (some ⟨b23, 0, none⟩) 5 5) smFeats), blk b4 (.cells [sv xr.base, xr.av.1].toArray 77 (0, 0)), dat (isSim (fn0 (.mk [101] []) (fn0 (.mk [101] []) (.mk [116] []))) (simV xr)), blk b3 (.cells [sv xp.base, xp.av.1].toArray 77 (0, 0)), dat (isSim (fn0 (.mk [101] []) (.mk [116] [])) (simV xp)), blk b2 (.cells [sv xt.base, xt.av.1].toArray 77 (0, 0)), blk b1 (.cells [sv xe.base, xe.av.1].toArray 77 (0, 0)), dat (isSim (.mk [116] []) (simV xt)), dat (isSim (.mk [101] []) (simV xe)), blk b0 (.cells [(.slice none 0 0), (.slice none 0 0), (.slice none 0 0), (.slice none 0 0), (.slice none 0 0)].toArray 32 (0, 0))] (by repeat (first | exact List.Sublist.slnil | with_reducible refine List.Sublist.cons_cons _ ?_ | refine List.Sublist.cons _ ?_)) ?_
 refine St.nil (St.then_normal (St.seq (St.rg ?_)))
 refine St.bsl rfl (.cons (.mk rfl) .nil) Tryd.underlying57 sz3 zv3 rfl rfl (by simp [Value.cells]) rfl rfl (fun b251 => ?_)
 refine St.publish (.slice (some ⟨b251, 0, none⟩) 1 1) intR [6] rfl rfl (wfI (by decide)) ?_
 refine St.bsl rfl (.cons (.mk rfl) .nil) Tryd.underlying40 sz57 zv57 rfl rfl (by simp [Value.cells]) rfl rfl (fun b252 => ?_)
 refine St.publish (.slice (some ⟨b252, 0, none⟩) 1 1) valR [⟨(.slice (some ⟨b251, 0, none⟩) 1 1), rfl⟩] (show _ = rows valR [⟨(.slice (some ⟨b251, 0, none⟩) 1 1), rfl⟩] by simp only [List.flatMap_cons, List.flatMap_nil, Value.cells]; rfl) rfl (fun _ _ => trivial) ?_
 refine nsl_of intR (.slice (some ⟨b252, 0, none⟩) 1 1) [⟨(.slice (some ⟨b251, 0, none⟩) 1 1), rfl⟩] [[6]] [sl intR (.slice (some ⟨b251, 0, none⟩) 1 1) [6]] rfl rfl ?_
 refine St.toNsl (Rr := intR) (xs := [[6]]) (.slice (some ⟨b252, 0, none⟩) 1 1) rfl ?_
 refine St.calld (graphOf_spec (.slice (some ⟨b252, 0, none⟩) 1 1) [[6]] (by decide) (by decide)) cb29 (.cons (.mk rfl) .nil) rfl ?_
 rintro v253 _ rfl
 refine St.app1 ?_
 refine St.isGraph (graph0 [[6]]) v253 (fun yz hyz => ?_)
 obtain ⟨rfl, hyzE⟩ := hyz
 refine St.ev _ (Ev.fldb0 (.mk rfl) fo32_3) rfl ?_
 refine St.storeAt1 (L' := [tv.1, (.slice (some ⟨b23, 0, none⟩) 5 5), rv, w21, yz.nv.1]) (Opd.mk rfl) (Opd.mk rfl) sz30 yz.nv.2 rfl rfl ?_
 refine St.nil (St.then_normal (St.seq (St.rg ?_)))
 refine St.ev _ (Ev.ldbA (.mk rfl) Tryd.underlying32 trivial (by exact sz32)) rfl ?_
 refine St.storeA (Opd.mk rfl) (Opd.mk rfl) sz32 (by first | simp only [List.length_cons, List.length_nil] | rfl) (by simp only [List.all_cons, List.all_nil, Bool.and_true, Bool.and_eq_true]; exact ⟨tv.2, rfl, hrv, hX21o, yz.nv.2⟩) ?_
 refine St.nil (St.then_normal (St.rett ?_))
 refine St.publish w21 lexR X21 rfl rfl hX21w ?_
 refine St.mkD (grmD (⟨tv, ts, ⟨(.slice (some ⟨b23, 0, none⟩) 5 5), rfl⟩, smFeats, ⟨rv, hrv⟩, rls, ⟨w21, hX21o⟩, X21, yz⟩ : GrmD)) [sl tyR tv.1 ts, dall tyD ts, sl featR (.slice (some ⟨b23, 0, none⟩) 5 5) smFeats, sl ruleR rv rls, dall ruleD rls, sl lexR w21 X21, dall lexD X21, graphD yz] (fun ρ h => h) ?_
 refine St.mkD (isGrm smallE (grmV (⟨tv, ts, ⟨(.slice (some ⟨b23, 0, none⟩) 5 5), rfl⟩, smFeats, ⟨rv, hrv⟩, rls, ⟨w21, hX21o⟩, X21, yz⟩ : GrmD))) [grmD (⟨tv, ts, ⟨(.slice (some ⟨b23, 0, none⟩) 5 5), rfl⟩, smFeats, ⟨rv, hrv⟩, rls, ⟨w21, hX21o⟩, X21, yz⟩ : GrmD)] (fun ρ h => ⟨(⟨tv, ts, ⟨(.slice (some ⟨b23, 0, none⟩) 5 5), rfl⟩, smFeats, ⟨rv, hrv⟩, rls, ⟨w21, hX21o⟩, X21, yz⟩ : GrmD), rfl, by show (⟨ts.map tyE, smFeats.map ftE, rls.map ruE, X21.map lxE, grE yz⟩ : Gm0) = smallE; rw [hts, hrlsE, hX21E, hyzE]; rfl, h _ (List.mem_cons_self ..)⟩) ?_
 refine St.rets [_] [dat (isGrm smallE (grmV (⟨tv, ts, ⟨(.slice (some ⟨b23, 0, none⟩) 5 5), rfl⟩, smFeats, ⟨rv, hrv⟩, rls, ⟨w21, hX21o⟩, X21, yz⟩ : GrmD)))] Tryd.results11 ⟨⟨_, _, _, _, rfl, InB.mem, .inl ⟨⟨_, Tryd.underlying32⟩, sz32, rfl⟩⟩, trivial⟩ ?_ (fun _ hw => hw.sub)
 rfl
end Go.Proofs.YtolmidffiegkaaaDoor

/-
  (YtolmidffiegkaaaDoorQ33)
  The walk of the query of the sample.
  Conditions: the signs and tables are those that the program lays.
-/
set_option maxRecDepth 20000
set_option linter.unusedSimpArgs false
set_option linter.unusedVariables false
namespace Go.Proofs.YtolmidffiegkaaaDoor
open Go Go.J
def rvars : List VarD := [⟨[97], 2, [115]⟩, ⟨[98], 3, [98, 97, 114, 107, 115]⟩]
def rlinks : List QLnD := [⟨2, 0, 1⟩]
def rtext : Str := [97, 58, 115, 32, 98, 58, 39, 98, 97, 114, 107, 115, 32, 97, 62, 62, 98]
theorem ready_mat : matF smallE rvars rlinks rexE = ([[0, 3]], (0, 0)) := by kernel_rfl
theorem ready_qry : qryF rvars rlinks = (0, 0) := by kernel_rfl
theorem ready_prn : prnF rvars rlinks = rtext := by kernel_rfl
theorem varQ_wf {v : VarD} (h1 : v.name.length ≤ 1000) (h2 : -100 ≤ v.kind ∧ v.kind ≤ 100) (h3 : v.label.length ≤ 140737488351232) : varR.wf v := ⟨by show v.name.length ≤ 140737488351232; omega, by show i64ok v.kind; unfold i64ok; omega, h3⟩
theorem varsQ_wf {l : List VarD} (h : l.all (fun v => decide (v.name.length ≤ 1000) && decide (v.label.length ≤ 1000) && decide (-100 ≤ v.kind) && decide (v.kind ≤ 100)) = true) : ∀ x ∈ l, varR.wf x := fun x hx => by
 have h1 := List.all_eq_true.1 h x hx
 simp only [Bool.and_eq_true, decide_eq_true_eq] at h1
 exact varQ_wf h1.1.1.1 ⟨h1.1.2, h1.2⟩ (by omega)
theorem linksQ_wf {l : List QLnD} (h : l.all (fun v => decide (-100 ≤ v.kind) && decide (v.kind ≤ 100) && decide (-100 ≤ v.a) && decide (v.a ≤ 100) && decide (-100 ≤ v.b) && decide (v.b ≤ 100)) = true) : ∀ x ∈ l, qlnR.wf x := fun x hx => by
 have h1 := List.all_eq_true.1 h x hx
 simp only [Bool.and_eq_true, decide_eq_true_eq] at h1
 exact ⟨by show i64ok x.kind; unfold i64ok; omega, by show i64ok x.a; unfold i64ok; omega, by show i64ok x.b; unfold i64ok; omega⟩
set_option maxHeartbeats 2000000 in
theorem ready_spec : FnVw Tryd.prog 6 #[] [tz, u8, sgn] (.bool true) := by
 refine FnVw.body (args := []) (ds := [tz, u8, sgn]) 48 Tryd.func6 rfl Tryd.ntmps6 rfl (fun c hdr => ?_)
 refine St.cast (H' := [dat (tz), dat (u8), dat (sgn)]) rfl ?_
 refine St.seq (St.rg ?_)
 refine St.asg ?_
 refine St.nil (St.then_normal (St.seq (St.rg ?_)))
 refine St.ev _ (Ev.build (ps := [(0, (.const (.string ⟨#[97]⟩))), (1, (.const (.int .i64 2))), (2, (.const (.string ⟨#[115]⟩)))]) (Opds.cons (Opd.mk rfl) (Opds.cons (Opd.mk rfl) (Opds.cons (Opd.mk rfl) Opds.nil))) (fun w => bld38_0_1_2 rfl rfl rfl w)) rfl ?_
 refine St.ev _ (Ev.build (ps := [(0, (.const (.string ⟨#[98]⟩))), (1, (.const (.int .i64 3))), (2, (.const (.string ⟨#[98, 97, 114, 107, 115]⟩)))]) (Opds.cons (Opd.mk rfl) (Opds.cons (Opd.mk rfl) (Opds.cons (Opd.mk rfl) Opds.nil))) (fun w => bld38_0_1_2 rfl rfl rfl w)) rfl ?_
 refine St.bsl rfl (.cons (.mk rfl) (.cons (.mk rfl) .nil)) Tryd.underlying39 sz38 zv38 rfl rfl (by simp [Value.cells]) rfl rfl (fun b8 => ?_)
 refine St.publish (.slice (some ⟨b8, 0, none⟩) 2 2) varR rvars rfl rfl (varsQ_wf (by decide)) ?_
 refine St.ev _ (Ev.build (ps := [(0, (.const (.int .i64 2))), (1, (.const (.int .i64 0))), (2, (.const (.int .i64 1)))]) (Opds.cons (Opd.mk rfl) (Opds.cons (Opd.mk rfl) (Opds.cons (Opd.mk rfl) Opds.nil))) (fun w => bld46_0_1_2 rfl rfl rfl w)) rfl ?_
 refine St.bsl rfl (.cons (.mk rfl) .nil) Tryd.underlying47 sz46 zv46 rfl rfl (by simp [Value.cells]) rfl rfl (fun b10 => ?_)
 refine St.publish (.slice (some ⟨b10, 0, none⟩) 1 1) qlnR rlinks rfl rfl (linksQ_wf (by decide)) ?_
 refine St.mkD (queryD ⟨⟨(.slice (some ⟨b8, 0, none⟩) 2 2), rfl⟩, rvars, ⟨(.slice (some ⟨b10, 0, none⟩) 1 1), rfl⟩, rlinks⟩) [sl varR (.slice (some ⟨b8, 0, none⟩) 2 2) rvars, sl qlnR (.slice (some ⟨b10, 0, none⟩) 1 1) rlinks] (fun ρ h => h) ?_
 refine St.ev _ (Ev.build (ps := [(0, (.tmp 8)), (1, (.tmp 10))]) (Opds.cons (Opd.mk rfl) (Opds.cons (Opd.mk rfl) Opds.nil)) (fun w => bld49_0_1 rfl rfl w)) rfl ?_
 refine St.alloc zc49 rfl (fun b1 => ?_)
 refine St.storeA (Opd.mk rfl) (Opd.mk rfl) sz49 (by first | simp only [List.length_cons, List.length_nil] | rfl) (by simp only [List.all_cons, List.all_nil, Bool.and_true, Bool.and_eq_true]; exact ⟨rfl, rfl⟩) ?_
 refine St.nil (St.then_normal (St.seq ?_))
 refine St.parL [] mixed ?_
 refine SW.defer 1 (by repeat (first | refine NP.then ?_ | refine NP.inBlock ?_ | exact NP.body)) (by kernel_rfl) rfl (fun R => Ev.ldbA (.mk rfl) Tryd.underlying49 trivial (by exact sz49)) (by kernel_rfl) rfl ?_
 refine SW.turn2 (i := 0) (j := 7) (by kernel_rfl) rfl rfl ?_ ?_
 ·skip
  refine St.calld Small_spec cb11 (.nil) rfl ?_
  rintro v13 _ rfl
  refine St.app1 ?_
  refine St.isGrm smallE v13 (fun g hgg => ?_)
  obtain ⟨rfl, hgE⟩ := hgg
  refine St.nil (St.then_normal ?_)
  refine SW.go ?_
  refine SW.turn2 (i := 2) (j := 7) (by kernel_rfl) rfl rfl ?_ ?_
  ·skip
   refine St.calld rexBarks_spec cb12 (.nil) rfl ?_
   rintro v15 _ ⟨t, rfl, htE, htw, rfl⟩
   refine St.app1 ?_
   refine St.nil (St.then_normal ?_)
   refine SW.go ?_
   refine SW.turn2 (i := 3) (j := 7) (by kernel_rfl) rfl rfl ?_ ?_
   ·skip
    refine St.calldW hdr (Match_spec g (⟨⟨(.slice (some ⟨b8, 0, none⟩) 2 2), rfl⟩, rvars, ⟨(.slice (some ⟨b10, 0, none⟩) 1 1), rfl⟩, rlinks⟩ : QryD) t htw) cb7 (.cons (.mk rfl) (.cons (.mk rfl) (.cons (.mk rfl) .nil))) rfl ?_
    rintro v16 _ ⟨vo, rfl, hvo, rfl⟩
    refine St.app1 ?_
    rw [hgE, htE]
    rw [show matF smallE (⟨⟨(.slice (some ⟨b8, 0, none⟩) 2 2), rfl⟩, rvars, ⟨(.slice (some ⟨b10, 0, none⟩) 1 1), rfl⟩, rlinks⟩ : QryD).vars (⟨⟨(.slice (some ⟨b8, 0, none⟩) 2 2), rfl⟩, rvars, ⟨(.slice (some ⟨b10, 0, none⟩) 1 1), rfl⟩, rlinks⟩ : QryD).links rexE = ([[0, 3]], (0, 0)) from ready_mat]
    refine St.nil (St.then_normal ?_)
    refine SW.go ?_
    refine SW.defer 4 (by repeat (first | refine NP.then ?_ | refine NP.inBlock ?_ | exact NP.body)) (by kernel_rfl) rfl (fun R => Ev.move (.mk rfl)) (by kernel_rfl) rfl ?_
    refine SW.defer 5 (by repeat (first | refine NP.then ?_ | refine NP.inBlock ?_ | exact NP.body)) (by kernel_rfl) rfl (fun R => Ev.extract (.mk rfl) rfl) (by kernel_rfl) rfl ?_
    refine SW.defer 6 (by repeat (first | refine NP.then ?_ | refine NP.inBlock ?_ | exact NP.body)) (by kernel_rfl) rfl (fun R => Ev.extract (.mk rfl) rfl) (by kernel_rfl) rfl ?_
    refine SW.turn1 (i := 7) (by kernel_rfl) rfl ?_
    refine St.alloc zc42 rfl (fun b3 => ?_)
    refine St.nil (St.then_normal ?_)
    refine SW.go ?_
    refine SW.defer 8 (by repeat (first | refine NP.then ?_ | refine NP.inBlock ?_ | exact NP.body)) (by kernel_rfl) rfl (fun R => Ev.assign (.mk rfl)) (by kernel_rfl) rfl ?_
    refine SW.turn1 (i := 9) (by kernel_rfl) rfl ?_
    refine St.storeA (Opd.mk rfl) (Opd.mk rfl) sz42 (by first | simp only [List.length_cons, List.length_nil] | rfl) rfl ?_
    refine St.nil (St.then_normal ?_)
    refine SW.go ?_
    refine SW.done (by kernel_rfl) ?_
    refine St.then_normal (St.seq (St.rg ?_))
    refine St.ev _ (Ev.ldbA (.mk rfl) Tryd.underlying49 trivial (by exact sz49)) rfl ?_
    refine St.ev _ (Ev.callW hdr (Print_spec (⟨⟨(.slice (some ⟨b8, 0, none⟩) 2 2), rfl⟩, rvars, ⟨(.slice (some ⟨b10, 0, none⟩) 1 1), rfl⟩, rlinks⟩ : QryD)) cb13 (.cons (.mk rfl) .nil)) rfl ?_
    refine St.slot 21 (.tuple #[sv rtext, fv (0, 0)]) rfl (by rw [show prnF (⟨⟨(.slice (some ⟨b8, 0, none⟩) 2 2), rfl⟩, rvars, ⟨(.slice (some ⟨b10, 0, none⟩) 1 1), rfl⟩, rlinks⟩ : QryD).vars (⟨⟨(.slice (some ⟨b8, 0, none⟩) 2 2), rfl⟩, rvars, ⟨(.slice (some ⟨b10, 0, none⟩) 1 1), rfl⟩, rlinks⟩ : QryD).links = rtext from ready_prn, show qryF (⟨⟨(.slice (some ⟨b8, 0, none⟩) 2 2), rfl⟩, rvars, ⟨(.slice (some ⟨b10, 0, none⟩) 1 1), rfl⟩, rlinks⟩ : QryD).vars (⟨⟨(.slice (some ⟨b8, 0, none⟩) 2 2), rfl⟩, rvars, ⟨(.slice (some ⟨b10, 0, none⟩) 1 1), rfl⟩, rlinks⟩ : QryD).links = (0, 0) from ready_qry]) ?_
    refine St.mv ?_
    refine St.ev _ (Ev.extract (.mk rfl) rfl) rfl ?_
    refine St.ev _ (Ev.extract (.mk rfl) rfl) rfl ?_
    refine St.alloc zc42 rfl (fun b5 => ?_)
    refine St.asg ?_
    refine St.storeA (Opd.mk rfl) (Opd.mk rfl) sz42 (by first | simp only [List.length_cons, List.length_nil] | rfl) rfl ?_
    refine St.nil (St.then_normal (St.seq ?_))
    refine St.openNs vo (fun vs hvl => ?_)
    have hv1 : vs.length = 1 := by rw [hvl]; rfl
    obtain ⟨u, hu⟩ := some_of_lt (show 0 < vs.length by omega)
    refine St.ptw (vs := vs) 0 hu (show (([[0, 3]] : List (List Nat)).map ints)[0]? = some [0, 3] from rfl) ?_
    refine St.rg ?_
    refine St.ev _ (Ev.fldb0 (.mk rfl) fo42_0) rfl ?_
    refine St.ev _ (Ev.ldb (.mk rfl) Tryd.underlying3 trivial (by rfl)) rfl ?_
    refine St.ev _ (Ev.eql (.mk rfl) (.mk rfl)) rfl ?_
    refine St.known 26 _ true rfl rfl ?_
    refine St.mv ?_
    refine St.takeg rfl rfl ?_
    refine St.mv ?_
    refine St.takeg rfl rfl ?_
    refine St.ev _ (Ev.lensl (.mk rfl) Tryd.underlying40) rfl ?_
    refine St.takeg rfl rfl ?_
    refine St.ev _ (Ev.eql (.mk rfl) (.mk rfl)) rfl ?_
    refine St.known 30 _ true rfl (by rw [hv1]; rfl) ?_
    refine St.ev _ (Ev.pickt (.mk rfl) rfl (.mk rfl)) rfl ?_
    refine St.mv ?_
    refine St.known 32 _ true rfl rfl ?_
    refine St.takeg rfl rfl ?_
    refine St.mv ?_
    refine St.takeg rfl rfl ?_
    refine St.ev _ (Ev.idxaddr (k := 0) (.mk rfl) (.mk rfl) Tryd.underlying40 sz57 rfl (by omega)) rfl ?_
    refine St.takeg rfl rfl ?_
    refine St.ev _ (Ev.ld1 (.mk rfl) hu Tryd.underlying57 trivial rfl) rfl ?_
    refine St.takeg rfl rfl ?_
    refine St.bsl rfl (.cons (.mk rfl) (.cons (.mk rfl) .nil)) Tryd.underlying57 sz3 zv3 rfl rfl (by simp [Value.cells]) rfl rfl (fun b36 => ?_)
    refine St.publish (.slice (some ⟨b36, 0, none⟩) 2 2) intR [0, 3] rfl rfl (wfI (by decide)) ?_
    refine St.takeg rfl rfl ?_
    refine St.ev _ (Ev.call (sameInts_spec u.1 (.slice (some ⟨b36, 0, none⟩) 2 2) [0, 3] [0, 3]) cb10 (.cons (.mk rfl) (.cons (.mk rfl) .nil))) rfl ?_
    refine St.known 37 _ true rfl (by decide) ?_
    refine St.ev _ (Ev.pickt (.mk rfl) rfl (.mk rfl)) rfl ?_
    refine St.mv ?_
    refine St.known 39 _ true rfl rfl ?_
    refine St.takeg rfl rfl ?_
    refine St.ev _ (Ev.fldb0 (.mk rfl) fo42_0) rfl ?_
    refine St.takeg rfl rfl ?_
    refine St.ev _ (Ev.ldb (.mk rfl) Tryd.underlying3 trivial (by rfl)) rfl ?_
    refine St.takeg rfl rfl ?_
    refine St.ev _ (Ev.eql (.mk rfl) (.mk rfl)) rfl ?_
    refine St.known 42 _ true rfl rfl ?_
    refine St.ev _ (Ev.pickt (.mk rfl) rfl (.mk rfl)) rfl ?_
    refine St.mv ?_
    refine St.known 44 _ true rfl rfl ?_
    refine St.takeg rfl rfl ?_
    refine St.mv ?_
    refine St.takeg rfl rfl ?_
    refine St.ev _ (Ev.streq (.mk rfl) (.mk rfl)) rfl ?_
    refine St.ev _ (Ev.pickt (.mk rfl) rfl (.mk rfl)) rfl ?_
    refine St.asg ?_
    refine St.nil (St.then_normal (St.rett ?_))
    refine St.rets [_] [] Tryd.results6 ⟨rfl, trivial⟩ ?_ (fun _ hw => hw.sub)
    exact be (by decide)
   ·skip
    refine St.alloc zc42 rfl (fun b3 => ?_)
    refine St.nil (St.then_normal ?_)
    refine SW.go ?_
    refine SW.turn1 (i := 3) (by kernel_rfl) rfl ?_
    refine St.calldW hdr (Match_spec g (⟨⟨(.slice (some ⟨b8, 0, none⟩) 2 2), rfl⟩, rvars, ⟨(.slice (some ⟨b10, 0, none⟩) 1 1), rfl⟩, rlinks⟩ : QryD) t htw) cb7 (.cons (.mk rfl) (.cons (.mk rfl) (.cons (.mk rfl) .nil))) rfl ?_
    rintro v16 _ ⟨vo, rfl, hvo, rfl⟩
    refine St.app1 ?_
    rw [hgE, htE]
    rw [show matF smallE (⟨⟨(.slice (some ⟨b8, 0, none⟩) 2 2), rfl⟩, rvars, ⟨(.slice (some ⟨b10, 0, none⟩) 1 1), rfl⟩, rlinks⟩ : QryD).vars (⟨⟨(.slice (some ⟨b8, 0, none⟩) 2 2), rfl⟩, rvars, ⟨(.slice (some ⟨b10, 0, none⟩) 1 1), rfl⟩, rlinks⟩ : QryD).links rexE = ([[0, 3]], (0, 0)) from ready_mat]
    refine St.nil (St.then_normal ?_)
    refine SW.go ?_
    refine SW.defer 4 (by repeat (first | refine NP.then ?_ | refine NP.inBlock ?_ | exact NP.body)) (by kernel_rfl) rfl (fun R => Ev.move (.mk rfl)) (by kernel_rfl) rfl ?_
    refine SW.defer 5 (by repeat (first | refine NP.then ?_ | refine NP.inBlock ?_ | exact NP.body)) (by kernel_rfl) rfl (fun R => Ev.extract (.mk rfl) rfl) (by kernel_rfl) rfl ?_
    refine SW.defer 6 (by repeat (first | refine NP.then ?_ | refine NP.inBlock ?_ | exact NP.body)) (by kernel_rfl) rfl (fun R => Ev.extract (.mk rfl) rfl) (by kernel_rfl) rfl ?_
    refine SW.defer 8 (by repeat (first | refine NP.then ?_ | refine NP.inBlock ?_ | exact NP.body)) (by kernel_rfl) rfl (fun R => Ev.assign (.mk rfl)) (by kernel_rfl) rfl ?_
    refine SW.turn1 (i := 9) (by kernel_rfl) rfl ?_
    refine St.storeA (Opd.mk rfl) (Opd.mk rfl) sz42 (by first | simp only [List.length_cons, List.length_nil] | rfl) rfl ?_
    refine St.nil (St.then_normal ?_)
    refine SW.go ?_
    refine SW.done (by kernel_rfl) ?_
    refine St.then_normal (St.seq (St.rg ?_))
    refine St.ev _ (Ev.ldbA (.mk rfl) Tryd.underlying49 trivial (by exact sz49)) rfl ?_
    refine St.ev _ (Ev.callW hdr (Print_spec (⟨⟨(.slice (some ⟨b8, 0, none⟩) 2 2), rfl⟩, rvars, ⟨(.slice (some ⟨b10, 0, none⟩) 1 1), rfl⟩, rlinks⟩ : QryD)) cb13 (.cons (.mk rfl) .nil)) rfl ?_
    refine St.slot 21 (.tuple #[sv rtext, fv (0, 0)]) rfl (by rw [show prnF (⟨⟨(.slice (some ⟨b8, 0, none⟩) 2 2), rfl⟩, rvars, ⟨(.slice (some ⟨b10, 0, none⟩) 1 1), rfl⟩, rlinks⟩ : QryD).vars (⟨⟨(.slice (some ⟨b8, 0, none⟩) 2 2), rfl⟩, rvars, ⟨(.slice (some ⟨b10, 0, none⟩) 1 1), rfl⟩, rlinks⟩ : QryD).links = rtext from ready_prn, show qryF (⟨⟨(.slice (some ⟨b8, 0, none⟩) 2 2), rfl⟩, rvars, ⟨(.slice (some ⟨b10, 0, none⟩) 1 1), rfl⟩, rlinks⟩ : QryD).vars (⟨⟨(.slice (some ⟨b8, 0, none⟩) 2 2), rfl⟩, rvars, ⟨(.slice (some ⟨b10, 0, none⟩) 1 1), rfl⟩, rlinks⟩ : QryD).links = (0, 0) from ready_qry]) ?_
    refine St.mv ?_
    refine St.ev _ (Ev.extract (.mk rfl) rfl) rfl ?_
    refine St.ev _ (Ev.extract (.mk rfl) rfl) rfl ?_
    refine St.alloc zc42 rfl (fun b5 => ?_)
    refine St.asg ?_
    refine St.storeA (Opd.mk rfl) (Opd.mk rfl) sz42 (by first | simp only [List.length_cons, List.length_nil] | rfl) rfl ?_
    refine St.nil (St.then_normal (St.seq ?_))
    refine St.openNs vo (fun vs hvl => ?_)
    have hv1 : vs.length = 1 := by rw [hvl]; rfl
    obtain ⟨u, hu⟩ := some_of_lt (show 0 < vs.length by omega)
    refine St.ptw (vs := vs) 0 hu (show (([[0, 3]] : List (List Nat)).map ints)[0]? = some [0, 3] from rfl) ?_
    refine St.rg ?_
    refine St.ev _ (Ev.fldb0 (.mk rfl) fo42_0) rfl ?_
    refine St.ev _ (Ev.ldb (.mk rfl) Tryd.underlying3 trivial (by rfl)) rfl ?_
    refine St.ev _ (Ev.eql (.mk rfl) (.mk rfl)) rfl ?_
    refine St.known 26 _ true rfl rfl ?_
    refine St.mv ?_
    refine St.takeg rfl rfl ?_
    refine St.mv ?_
    refine St.takeg rfl rfl ?_
    refine St.ev _ (Ev.lensl (.mk rfl) Tryd.underlying40) rfl ?_
    refine St.takeg rfl rfl ?_
    refine St.ev _ (Ev.eql (.mk rfl) (.mk rfl)) rfl ?_
    refine St.known 30 _ true rfl (by rw [hv1]; rfl) ?_
    refine St.ev _ (Ev.pickt (.mk rfl) rfl (.mk rfl)) rfl ?_
    refine St.mv ?_
    refine St.known 32 _ true rfl rfl ?_
    refine St.takeg rfl rfl ?_
    refine St.mv ?_
    refine St.takeg rfl rfl ?_
    refine St.ev _ (Ev.idxaddr (k := 0) (.mk rfl) (.mk rfl) Tryd.underlying40 sz57 rfl (by omega)) rfl ?_
    refine St.takeg rfl rfl ?_
    refine St.ev _ (Ev.ld1 (.mk rfl) hu Tryd.underlying57 trivial rfl) rfl ?_
    refine St.takeg rfl rfl ?_
    refine St.bsl rfl (.cons (.mk rfl) (.cons (.mk rfl) .nil)) Tryd.underlying57 sz3 zv3 rfl rfl (by simp [Value.cells]) rfl rfl (fun b36 => ?_)
    refine St.publish (.slice (some ⟨b36, 0, none⟩) 2 2) intR [0, 3] rfl rfl (wfI (by decide)) ?_
    refine St.takeg rfl rfl ?_
    refine St.ev _ (Ev.call (sameInts_spec u.1 (.slice (some ⟨b36, 0, none⟩) 2 2) [0, 3] [0, 3]) cb10 (.cons (.mk rfl) (.cons (.mk rfl) .nil))) rfl ?_
    refine St.known 37 _ true rfl (by decide) ?_
    refine St.ev _ (Ev.pickt (.mk rfl) rfl (.mk rfl)) rfl ?_
    refine St.mv ?_
    refine St.known 39 _ true rfl rfl ?_
    refine St.takeg rfl rfl ?_
    refine St.ev _ (Ev.fldb0 (.mk rfl) fo42_0) rfl ?_
    refine St.takeg rfl rfl ?_
    refine St.ev _ (Ev.ldb (.mk rfl) Tryd.underlying3 trivial (by rfl)) rfl ?_
    refine St.takeg rfl rfl ?_
    refine St.ev _ (Ev.eql (.mk rfl) (.mk rfl)) rfl ?_
    refine St.known 42 _ true rfl rfl ?_
    refine St.ev _ (Ev.pickt (.mk rfl) rfl (.mk rfl)) rfl ?_
    refine St.mv ?_
    refine St.known 44 _ true rfl rfl ?_
    refine St.takeg rfl rfl ?_
    refine St.mv ?_
    refine St.takeg rfl rfl ?_
    refine St.ev _ (Ev.streq (.mk rfl) (.mk rfl)) rfl ?_
    refine St.ev _ (Ev.pickt (.mk rfl) rfl (.mk rfl)) rfl ?_
    refine St.asg ?_
    refine St.nil (St.then_normal (St.rett ?_))
    refine St.rets [_] [] Tryd.results6 ⟨rfl, trivial⟩ ?_ (fun _ hw => hw.sub)
    exact be (by decide)
  ·skip
   refine St.alloc zc42 rfl (fun b3 => ?_)
   refine St.nil (St.then_normal ?_)
   refine SW.go ?_
   refine SW.turn1 (i := 2) (by kernel_rfl) rfl ?_
   refine St.calld rexBarks_spec cb12 (.nil) rfl ?_
   rintro v15 _ ⟨t, rfl, htE, htw, rfl⟩
   refine St.app1 ?_
   refine St.nil (St.then_normal ?_)
   refine SW.go ?_
   refine SW.turn1 (i := 3) (by kernel_rfl) rfl ?_
   refine St.calldW hdr (Match_spec g (⟨⟨(.slice (some ⟨b8, 0, none⟩) 2 2), rfl⟩, rvars, ⟨(.slice (some ⟨b10, 0, none⟩) 1 1), rfl⟩, rlinks⟩ : QryD) t htw) cb7 (.cons (.mk rfl) (.cons (.mk rfl) (.cons (.mk rfl) .nil))) rfl ?_
   rintro v16 _ ⟨vo, rfl, hvo, rfl⟩
   refine St.app1 ?_
   rw [hgE, htE]
   rw [show matF smallE (⟨⟨(.slice (some ⟨b8, 0, none⟩) 2 2), rfl⟩, rvars, ⟨(.slice (some ⟨b10, 0, none⟩) 1 1), rfl⟩, rlinks⟩ : QryD).vars (⟨⟨(.slice (some ⟨b8, 0, none⟩) 2 2), rfl⟩, rvars, ⟨(.slice (some ⟨b10, 0, none⟩) 1 1), rfl⟩, rlinks⟩ : QryD).links rexE = ([[0, 3]], (0, 0)) from ready_mat]
   refine St.nil (St.then_normal ?_)
   refine SW.go ?_
   refine SW.defer 4 (by repeat (first | refine NP.then ?_ | refine NP.inBlock ?_ | exact NP.body)) (by kernel_rfl) rfl (fun R => Ev.move (.mk rfl)) (by kernel_rfl) rfl ?_
   refine SW.defer 5 (by repeat (first | refine NP.then ?_ | refine NP.inBlock ?_ | exact NP.body)) (by kernel_rfl) rfl (fun R => Ev.extract (.mk rfl) rfl) (by kernel_rfl) rfl ?_
   refine SW.defer 6 (by repeat (first | refine NP.then ?_ | refine NP.inBlock ?_ | exact NP.body)) (by kernel_rfl) rfl (fun R => Ev.extract (.mk rfl) rfl) (by kernel_rfl) rfl ?_
   refine SW.defer 8 (by repeat (first | refine NP.then ?_ | refine NP.inBlock ?_ | exact NP.body)) (by kernel_rfl) rfl (fun R => Ev.assign (.mk rfl)) (by kernel_rfl) rfl ?_
   refine SW.turn1 (i := 9) (by kernel_rfl) rfl ?_
   refine St.storeA (Opd.mk rfl) (Opd.mk rfl) sz42 (by first | simp only [List.length_cons, List.length_nil] | rfl) rfl ?_
   refine St.nil (St.then_normal ?_)
   refine SW.go ?_
   refine SW.done (by kernel_rfl) ?_
   refine St.then_normal (St.seq (St.rg ?_))
   refine St.ev _ (Ev.ldbA (.mk rfl) Tryd.underlying49 trivial (by exact sz49)) rfl ?_
   refine St.ev _ (Ev.callW hdr (Print_spec (⟨⟨(.slice (some ⟨b8, 0, none⟩) 2 2), rfl⟩, rvars, ⟨(.slice (some ⟨b10, 0, none⟩) 1 1), rfl⟩, rlinks⟩ : QryD)) cb13 (.cons (.mk rfl) .nil)) rfl ?_
   refine St.slot 21 (.tuple #[sv rtext, fv (0, 0)]) rfl (by rw [show prnF (⟨⟨(.slice (some ⟨b8, 0, none⟩) 2 2), rfl⟩, rvars, ⟨(.slice (some ⟨b10, 0, none⟩) 1 1), rfl⟩, rlinks⟩ : QryD).vars (⟨⟨(.slice (some ⟨b8, 0, none⟩) 2 2), rfl⟩, rvars, ⟨(.slice (some ⟨b10, 0, none⟩) 1 1), rfl⟩, rlinks⟩ : QryD).links = rtext from ready_prn, show qryF (⟨⟨(.slice (some ⟨b8, 0, none⟩) 2 2), rfl⟩, rvars, ⟨(.slice (some ⟨b10, 0, none⟩) 1 1), rfl⟩, rlinks⟩ : QryD).vars (⟨⟨(.slice (some ⟨b8, 0, none⟩) 2 2), rfl⟩, rvars, ⟨(.slice (some ⟨b10, 0, none⟩) 1 1), rfl⟩, rlinks⟩ : QryD).links = (0, 0) from ready_qry]) ?_
   refine St.mv ?_
   refine St.ev _ (Ev.extract (.mk rfl) rfl) rfl ?_
   refine St.ev _ (Ev.extract (.mk rfl) rfl) rfl ?_
   refine St.alloc zc42 rfl (fun b5 => ?_)
   refine St.asg ?_
   refine St.storeA (Opd.mk rfl) (Opd.mk rfl) sz42 (by first | simp only [List.length_cons, List.length_nil] | rfl) rfl ?_
   refine St.nil (St.then_normal (St.seq ?_))
   refine St.openNs vo (fun vs hvl => ?_)
   have hv1 : vs.length = 1 := by rw [hvl]; rfl
   obtain ⟨u, hu⟩ := some_of_lt (show 0 < vs.length by omega)
   refine St.ptw (vs := vs) 0 hu (show (([[0, 3]] : List (List Nat)).map ints)[0]? = some [0, 3] from rfl) ?_
   refine St.rg ?_
   refine St.ev _ (Ev.fldb0 (.mk rfl) fo42_0) rfl ?_
   refine St.ev _ (Ev.ldb (.mk rfl) Tryd.underlying3 trivial (by rfl)) rfl ?_
   refine St.ev _ (Ev.eql (.mk rfl) (.mk rfl)) rfl ?_
   refine St.known 26 _ true rfl rfl ?_
   refine St.mv ?_
   refine St.takeg rfl rfl ?_
   refine St.mv ?_
   refine St.takeg rfl rfl ?_
   refine St.ev _ (Ev.lensl (.mk rfl) Tryd.underlying40) rfl ?_
   refine St.takeg rfl rfl ?_
   refine St.ev _ (Ev.eql (.mk rfl) (.mk rfl)) rfl ?_
   refine St.known 30 _ true rfl (by rw [hv1]; rfl) ?_
   refine St.ev _ (Ev.pickt (.mk rfl) rfl (.mk rfl)) rfl ?_
   refine St.mv ?_
   refine St.known 32 _ true rfl rfl ?_
   refine St.takeg rfl rfl ?_
   refine St.mv ?_
   refine St.takeg rfl rfl ?_
   refine St.ev _ (Ev.idxaddr (k := 0) (.mk rfl) (.mk rfl) Tryd.underlying40 sz57 rfl (by omega)) rfl ?_
   refine St.takeg rfl rfl ?_
   refine St.ev _ (Ev.ld1 (.mk rfl) hu Tryd.underlying57 trivial rfl) rfl ?_
   refine St.takeg rfl rfl ?_
   refine St.bsl rfl (.cons (.mk rfl) (.cons (.mk rfl) .nil)) Tryd.underlying57 sz3 zv3 rfl rfl (by simp [Value.cells]) rfl rfl (fun b36 => ?_)
   refine St.publish (.slice (some ⟨b36, 0, none⟩) 2 2) intR [0, 3] rfl rfl (wfI (by decide)) ?_
   refine St.takeg rfl rfl ?_
   refine St.ev _ (Ev.call (sameInts_spec u.1 (.slice (some ⟨b36, 0, none⟩) 2 2) [0, 3] [0, 3]) cb10 (.cons (.mk rfl) (.cons (.mk rfl) .nil))) rfl ?_
   refine St.known 37 _ true rfl (by decide) ?_
   refine St.ev _ (Ev.pickt (.mk rfl) rfl (.mk rfl)) rfl ?_
   refine St.mv ?_
   refine St.known 39 _ true rfl rfl ?_
   refine St.takeg rfl rfl ?_
   refine St.ev _ (Ev.fldb0 (.mk rfl) fo42_0) rfl ?_
   refine St.takeg rfl rfl ?_
   refine St.ev _ (Ev.ldb (.mk rfl) Tryd.underlying3 trivial (by rfl)) rfl ?_
   refine St.takeg rfl rfl ?_
   refine St.ev _ (Ev.eql (.mk rfl) (.mk rfl)) rfl ?_
   refine St.known 42 _ true rfl rfl ?_
   refine St.ev _ (Ev.pickt (.mk rfl) rfl (.mk rfl)) rfl ?_
   refine St.mv ?_
   refine St.known 44 _ true rfl rfl ?_
   refine St.takeg rfl rfl ?_
   refine St.mv ?_
   refine St.takeg rfl rfl ?_
   refine St.ev _ (Ev.streq (.mk rfl) (.mk rfl)) rfl ?_
   refine St.ev _ (Ev.pickt (.mk rfl) rfl (.mk rfl)) rfl ?_
   refine St.asg ?_
   refine St.nil (St.then_normal (St.rett ?_))
   refine St.rets [_] [] Tryd.results6 ⟨rfl, trivial⟩ ?_ (fun _ hw => hw.sub)
   exact be (by decide)
 ·skip
  refine St.alloc zc42 rfl (fun b3 => ?_)
  refine St.nil (St.then_normal ?_)
  refine SW.go ?_
  refine SW.turn1 (i := 0) (by kernel_rfl) rfl ?_
  refine St.calld Small_spec cb11 (.nil) rfl ?_
  rintro v13 _ rfl
  refine St.app1 ?_
  refine St.isGrm smallE v13 (fun g hgg => ?_)
  obtain ⟨rfl, hgE⟩ := hgg
  refine St.nil (St.then_normal ?_)
  refine SW.go ?_
  refine SW.turn1 (i := 2) (by kernel_rfl) rfl ?_
  refine St.calld rexBarks_spec cb12 (.nil) rfl ?_
  rintro v15 _ ⟨t, rfl, htE, htw, rfl⟩
  refine St.app1 ?_
  refine St.nil (St.then_normal ?_)
  refine SW.go ?_
  refine SW.turn1 (i := 3) (by kernel_rfl) rfl ?_
  refine St.calldW hdr (Match_spec g (⟨⟨(.slice (some ⟨b8, 0, none⟩) 2 2), rfl⟩, rvars, ⟨(.slice (some ⟨b10, 0, none⟩) 1 1), rfl⟩, rlinks⟩ : QryD) t htw) cb7 (.cons (.mk rfl) (.cons (.mk rfl) (.cons (.mk rfl) .nil))) rfl ?_
  rintro v16 _ ⟨vo, rfl, hvo, rfl⟩
  refine St.app1 ?_
  rw [hgE, htE]
  rw [show matF smallE (⟨⟨(.slice (some ⟨b8, 0, none⟩) 2 2), rfl⟩, rvars, ⟨(.slice (some ⟨b10, 0, none⟩) 1 1), rfl⟩, rlinks⟩ : QryD).vars (⟨⟨(.slice (some ⟨b8, 0, none⟩) 2 2), rfl⟩, rvars, ⟨(.slice (some ⟨b10, 0, none⟩) 1 1), rfl⟩, rlinks⟩ : QryD).links rexE = ([[0, 3]], (0, 0)) from ready_mat]
  refine St.nil (St.then_normal ?_)
  refine SW.go ?_
  refine SW.defer 4 (by repeat (first | refine NP.then ?_ | refine NP.inBlock ?_ | exact NP.body)) (by kernel_rfl) rfl (fun R => Ev.move (.mk rfl)) (by kernel_rfl) rfl ?_
  refine SW.defer 5 (by repeat (first | refine NP.then ?_ | refine NP.inBlock ?_ | exact NP.body)) (by kernel_rfl) rfl (fun R => Ev.extract (.mk rfl) rfl) (by kernel_rfl) rfl ?_
  refine SW.defer 6 (by repeat (first | refine NP.then ?_ | refine NP.inBlock ?_ | exact NP.body)) (by kernel_rfl) rfl (fun R => Ev.extract (.mk rfl) rfl) (by kernel_rfl) rfl ?_
  refine SW.defer 8 (by repeat (first | refine NP.then ?_ | refine NP.inBlock ?_ | exact NP.body)) (by kernel_rfl) rfl (fun R => Ev.assign (.mk rfl)) (by kernel_rfl) rfl ?_
  refine SW.turn1 (i := 9) (by kernel_rfl) rfl ?_
  refine St.storeA (Opd.mk rfl) (Opd.mk rfl) sz42 (by first | simp only [List.length_cons, List.length_nil] | rfl) rfl ?_
  refine St.nil (St.then_normal ?_)
  refine SW.go ?_
  refine SW.done (by kernel_rfl) ?_
  refine St.then_normal (St.seq (St.rg ?_))
  refine St.ev _ (Ev.ldbA (.mk rfl) Tryd.underlying49 trivial (by exact sz49)) rfl ?_
  refine St.ev _ (Ev.callW hdr (Print_spec (⟨⟨(.slice (some ⟨b8, 0, none⟩) 2 2), rfl⟩, rvars, ⟨(.slice (some ⟨b10, 0, none⟩) 1 1), rfl⟩, rlinks⟩ : QryD)) cb13 (.cons (.mk rfl) .nil)) rfl ?_
  refine St.slot 21 (.tuple #[sv rtext, fv (0, 0)]) rfl (by rw [show prnF (⟨⟨(.slice (some ⟨b8, 0, none⟩) 2 2), rfl⟩, rvars, ⟨(.slice (some ⟨b10, 0, none⟩) 1 1), rfl⟩, rlinks⟩ : QryD).vars (⟨⟨(.slice (some ⟨b8, 0, none⟩) 2 2), rfl⟩, rvars, ⟨(.slice (some ⟨b10, 0, none⟩) 1 1), rfl⟩, rlinks⟩ : QryD).links = rtext from ready_prn, show qryF (⟨⟨(.slice (some ⟨b8, 0, none⟩) 2 2), rfl⟩, rvars, ⟨(.slice (some ⟨b10, 0, none⟩) 1 1), rfl⟩, rlinks⟩ : QryD).vars (⟨⟨(.slice (some ⟨b8, 0, none⟩) 2 2), rfl⟩, rvars, ⟨(.slice (some ⟨b10, 0, none⟩) 1 1), rfl⟩, rlinks⟩ : QryD).links = (0, 0) from ready_qry]) ?_
  refine St.mv ?_
  refine St.ev _ (Ev.extract (.mk rfl) rfl) rfl ?_
  refine St.ev _ (Ev.extract (.mk rfl) rfl) rfl ?_
  refine St.alloc zc42 rfl (fun b5 => ?_)
  refine St.asg ?_
  refine St.storeA (Opd.mk rfl) (Opd.mk rfl) sz42 (by first | simp only [List.length_cons, List.length_nil] | rfl) rfl ?_
  refine St.nil (St.then_normal (St.seq ?_))
  refine St.openNs vo (fun vs hvl => ?_)
  have hv1 : vs.length = 1 := by rw [hvl]; rfl
  obtain ⟨u, hu⟩ := some_of_lt (show 0 < vs.length by omega)
  refine St.ptw (vs := vs) 0 hu (show (([[0, 3]] : List (List Nat)).map ints)[0]? = some [0, 3] from rfl) ?_
  refine St.rg ?_
  refine St.ev _ (Ev.fldb0 (.mk rfl) fo42_0) rfl ?_
  refine St.ev _ (Ev.ldb (.mk rfl) Tryd.underlying3 trivial (by rfl)) rfl ?_
  refine St.ev _ (Ev.eql (.mk rfl) (.mk rfl)) rfl ?_
  refine St.known 26 _ true rfl rfl ?_
  refine St.mv ?_
  refine St.takeg rfl rfl ?_
  refine St.mv ?_
  refine St.takeg rfl rfl ?_
  refine St.ev _ (Ev.lensl (.mk rfl) Tryd.underlying40) rfl ?_
  refine St.takeg rfl rfl ?_
  refine St.ev _ (Ev.eql (.mk rfl) (.mk rfl)) rfl ?_
  refine St.known 30 _ true rfl (by rw [hv1]; rfl) ?_
  refine St.ev _ (Ev.pickt (.mk rfl) rfl (.mk rfl)) rfl ?_
  refine St.mv ?_
  refine St.known 32 _ true rfl rfl ?_
  refine St.takeg rfl rfl ?_
  refine St.mv ?_
  refine St.takeg rfl rfl ?_
  refine St.ev _ (Ev.idxaddr (k := 0) (.mk rfl) (.mk rfl) Tryd.underlying40 sz57 rfl (by omega)) rfl ?_
  refine St.takeg rfl rfl ?_
  refine St.ev _ (Ev.ld1 (.mk rfl) hu Tryd.underlying57 trivial rfl) rfl ?_
  refine St.takeg rfl rfl ?_
  refine St.bsl rfl (.cons (.mk rfl) (.cons (.mk rfl) .nil)) Tryd.underlying57 sz3 zv3 rfl rfl (by simp [Value.cells]) rfl rfl (fun b36 => ?_)
  refine St.publish (.slice (some ⟨b36, 0, none⟩) 2 2) intR [0, 3] rfl rfl (wfI (by decide)) ?_
  refine St.takeg rfl rfl ?_
  refine St.ev _ (Ev.call (sameInts_spec u.1 (.slice (some ⟨b36, 0, none⟩) 2 2) [0, 3] [0, 3]) cb10 (.cons (.mk rfl) (.cons (.mk rfl) .nil))) rfl ?_
  refine St.known 37 _ true rfl (by decide) ?_
  refine St.ev _ (Ev.pickt (.mk rfl) rfl (.mk rfl)) rfl ?_
  refine St.mv ?_
  refine St.known 39 _ true rfl rfl ?_
  refine St.takeg rfl rfl ?_
  refine St.ev _ (Ev.fldb0 (.mk rfl) fo42_0) rfl ?_
  refine St.takeg rfl rfl ?_
  refine St.ev _ (Ev.ldb (.mk rfl) Tryd.underlying3 trivial (by rfl)) rfl ?_
  refine St.takeg rfl rfl ?_
  refine St.ev _ (Ev.eql (.mk rfl) (.mk rfl)) rfl ?_
  refine St.known 42 _ true rfl rfl ?_
  refine St.ev _ (Ev.pickt (.mk rfl) rfl (.mk rfl)) rfl ?_
  refine St.mv ?_
  refine St.known 44 _ true rfl rfl ?_
  refine St.takeg rfl rfl ?_
  refine St.mv ?_
  refine St.takeg rfl rfl ?_
  refine St.ev _ (Ev.streq (.mk rfl) (.mk rfl)) rfl ?_
  refine St.ev _ (Ev.pickt (.mk rfl) rfl (.mk rfl)) rfl ?_
  refine St.asg ?_
  refine St.nil (St.then_normal (St.rett ?_))
  refine St.rets [_] [] Tryd.results6 ⟨rfl, trivial⟩ ?_ (fun _ hw => hw.sub)
  exact be (by decide)
end Go.Proofs.YtolmidffiegkaaaDoor

/-
  (YtolmidffiegkaaaDoorMtcS)
  What a query's matches are where nothing is wrong; other names of any number; the leaves' words.
  Conditions: none.
-/
namespace Go.Proofs.YtolmidffiegkaaaDoor
open Go Go.J
theorem matF_z {g : Gm0} {vs : List VarD} {ks : List QLnD} {t : Tr0} (h : (matF g vs ks t).2.1 = 0) : (grmF g).1 = 0 ∧ (qryF vs ks).1 = 0 ∧ (treeF g t).1 = 0 ∧ matF g vs ks t = (matchL g vs ks t, (0, 0)) ∧ (matchL g vs ks t).length ≤ 500 := by
 unfold matF at h ⊢
 by_cases h1 : (grmF g).1 ≠ 0
 ·rw [if_pos h1] at h; exact absurd h h1
 rw [if_neg h1] at h ⊢
 by_cases h2 : (qryF vs ks).1 ≠ 0
 ·rw [if_pos h2] at h; exact absurd h h2
 rw [if_neg h2] at h ⊢
 by_cases h3 : (treeF g t).1 ≠ 0
 ·rw [if_pos h3] at h; exact absurd h h3
 rw [if_neg h3] at h ⊢
 by_cases h4 : 500 < (matchL g vs ks t).length
 ·rw [if_pos h4] at h; exact absurd h (by simp)
 rw [if_neg h4]
 exact ⟨Decidable.not_not.1 h1, Decidable.not_not.1 h2, Decidable.not_not.1 h3, rfl, by omega⟩
theorem matF_g {g : Gm0} {vs : List VarD} {ks : List QLnD} {t : Tr0} (h1 : (grmF g).1 = 0) (h2 : (qryF vs ks).1 = 0) (h3 : (treeF g t).1 = 0) (h4 : (matchL g vs ks t).length ≤ 500) : matF g vs ks t = (matchL g vs ks t, (0, 0)) := by
 unfold matF
 rw [if_neg (fun h => h h1), if_neg (fun h => h h2), if_neg (fun h => h h3), if_neg (by omega)]
def nm10 (i : Nat) : Str := [113, UInt8.ofNat (48 + i % 10)]
def renW : Nat → List VarD → List VarD
 | _, [] => []
 | i, v :: vs => ⟨nm10 i, v.kind, v.label⟩ :: renW (i + 1) vs
theorem renW_len : ∀ (vs : List VarD) (i : Nat), (renW i vs).length = vs.length
 | [], _ => rfl
 | v :: vs, i => by rw [renW, List.length_cons, renW_len vs, List.length_cons]
theorem renW_snoc : ∀ (vs : List VarD) (i : Nat) (v : VarD), renW i (vs ++ [v]) = renW i vs ++ [⟨nm10 (i + vs.length), v.kind, v.label⟩]
 | [], i, v => rfl
 | u :: vs, i, v => by rw [List.cons_append, renW, renW_snoc vs, renW, List.cons_append, List.length_cons, show i + 1 + vs.length = i + (vs.length + 1) by omega]
theorem renW_take {vs : List VarD} {k : Nat} {v : VarD} (h : vs[k]? = some v) : renW 0 (vs.take (k + 1)) = renW 0 (vs.take k) ++ [⟨nm10 k, v.kind, v.label⟩] := by
 have hk := (List.getElem?_eq_some_iff.1 h).1
 have e : vs.take (k + 1) = vs.take k ++ [v] := by rw [List.take_add_one, h]; rfl
 rw [e, renW_snoc, List.length_take, Nat.min_eq_left (by omega), Nat.zero_add]
theorem renW_F : ∀ (vs : List VarD) (i : Nat), i + vs.length ≤ 10 → renW i vs = renF i vs
 | [], _, _ => rfl
 | v :: vs, i, h => by
  rw [List.length_cons] at h
  rw [renW, renF, renW_F vs (i + 1) (by omega)]
  unfold nm10 nmQ
  rw [Nat.mod_eq_of_lt (by omega)]
theorem renW_mem : ∀ (vs : List VarD) (i : Nat), ∀ x ∈ renW i vs, ∃ v ∈ vs, x.kind = v.kind ∧ x.label = v.label ∧ x.name.length = 2
 | [], _, x, hx => by cases hx
 | v :: vs, i, x, hx => by
  rw [renW] at hx
  rcases List.mem_cons.1 hx with rfl | hx
  ·exact ⟨v, List.mem_cons_self .., rfl, rfl, rfl⟩
  ·obtain ⟨u, hu, h⟩ := renW_mem vs (i + 1) x hx
   exact ⟨u, List.mem_cons_of_mem _ hu, h⟩
theorem ren_ok {g : Gm0} {vs : List VarD} {ks : List QLnD} {t : Tr0} (h : (matF g vs ks t).2.1 = 0) : matF g (renW 0 vs) ks t = matF g vs ks t := by
 obtain ⟨a1, a2, a3, a4, a5⟩ := matF_z h
 have hq := (qryF_ok a2).2
 have hf := hq.few
 have e : matchL g (renF 0 vs) ks t = matchL g vs ks t := exts_name _ _ _ _ _ (renF_same vs 0)
 rw [renW_F vs 0 (by omega), a4, ← e]
 exact matF_g a1 (by rw [qryF_ren a2]) a3 (by rw [e]; exact a5)
end Go.Proofs.YtolmidffiegkaaaDoor

/-
  (YtolmidffiegkaaaDoorJ35)
  A text made of bytes of the call's own.
  Conditions: none; everything holds of any program.
-/
namespace Go.J
open Go
section
variable {P : Program} {n : Nat} {F : Fr} {c : Ctx} {H R : List Ent} {ty : TypeId} {x : Operand} {v : Value}
theorem Ev.strrow (l : Str) {m : Nat} {cs : List Value} {src dst e : TypeId} [hr : InR v H e 1 m cs] (hx : Opd F x v) (hm : m = l.length) (hcs : cs = l.map fun b => Value.int .u8 (b.toNat : Int)) (hne : l ≠ [])
  (hs : P.underlying src = some (.slice e)) (he : P.underlying e = some (.int .u8)) (hd : P.underlying dst = some .string) : Ev P n F (Mm c H) (.convert src dst x) ty (sv l) := .of_run fun a w ha hw => by
 obtain ⟨ρ, hmm⟩ := hw.out
 subst hm hcs
 have hrow := hmm.row hr
 rcases hrow.2 with ⟨_, h0⟩ | ⟨g, cap, cur, rfl, _, hg, _, _, hcs, htk⟩
 ·exact absurd (List.eq_nil_of_length_eq_zero h0) hne
 ·have := run_convert_bytes_back (P := P) w src dst e ⟨g, 0, none⟩ cap l hs he hd (fun j hj => by
   have h1 : (cur.toList.take (l.length * 1))[j]? = some (.int .u8 (l[j].toNat : Int)) := by
    rw [htk, List.getElem?_map, List.getElem?_eq_getElem hj]; rfl
   rw [List.getElem?_take] at h1
   rw [Addr.add_lit, Nat.zero_add, cell?_of_blk hg]
   split at h1
   ·simpa using h1
   ·cases h1)
  simp [execOp, hx.eval ha, this]
end
end Go.J

/-
  (YtolmidffiegkaaaDoorQ34)
  Plain facts for the laws Opposed, Renamed, LeavesAreWords.
  Conditions: none beyond the sizes.
-/
set_option maxRecDepth 20000
set_option linter.unusedSimpArgs false
set_option linter.unusedVariables false
namespace Go.Proofs.YtolmidffiegkaaaDoor
open Go Go.J
theorem tmod10 (k : Nat) : (k : Int).tmod 10 = ((k % 10 : Nat) : Int) := (Int.ofNat_tmod k 10).symm
theorem byte10 (k : Nat) : IntKind.u8.wrap (48 + ((k % 10 : Nat) : Int)) = ((UInt8.ofNat (48 + k % 10)).toNat : Int) := by
 have h : k % 10 < 10 := Nat.mod_lt _ (by decide)
 generalize k % 10 = j at h
 have : ∀ j, j < 10 → IntKind.u8.wrap (48 + ((j : Nat) : Int)) = ((UInt8.ofNat (48 + j)).toNat : Int) := by decide
 exact this j h
theorem renW_wf {vs : List VarD} (h : ∀ v ∈ vs, varR.wf v) : ∀ x ∈ renW 0 vs, varR.wf x := fun x hx => by
 obtain ⟨v, hv, h1, h2, h3⟩ := renW_mem vs 0 x hx
 obtain ⟨a, b, c⟩ := h v hv
 exact ⟨by show x.name.length ≤ 140737488351232; omega, by rw [h1]; exact b, by rw [h2]; exact c⟩
end Go.Proofs.YtolmidffiegkaaaDoor

/-
  (YtolmidffiegkaaaDoorQ36)
  The walk of the law Renamed.
  Conditions: none beyond the sizes.
-/
set_option maxRecDepth 20000
set_option linter.unusedSimpArgs false
set_option linter.unusedVariables false
namespace Go.Proofs.YtolmidffiegkaaaDoor
open Go Go.J
set_option maxHeartbeats 4000000 in
theorem law4_spec (g : GrmD) (q : QryD) (t : TreeD) (htw : treeR.wf t) (hsz : q.vars.length * 40 ≤ 140737488351232) : FnVw Tryd.prog 4 #[grmV g, queryV q, treeV t] [grmD g, queryD q, treeD t, tz, u8, sgn] (.bool true) := by
 refine FnVw.body (args := [grmV g, queryV q, treeV t]) (ds := [grmD g, queryD q, treeD t, tz, u8, sgn]) 68 Tryd.func4 rfl Tryd.ntmps4 rfl (fun c hdr => ?_)
 refine St.cast (H' := [dat (grmD g), dat (queryD q), dat (treeD t), dat (tz), dat (u8), dat (sgn)]) rfl ?_
 refine St.seq ?_
 refine St.openD (queryD q) (fun _ : Unit => queryL q) (fun ρ h => ⟨(), h⟩) fun _ => ?_
 refine St.cast (H' := [dat (sl varR q.vv.1 q.vars), dat (sl qlnR q.kv.1 q.links), dat (grmD g), dat (queryD q), dat (treeD t), dat (tz), dat (u8), dat (sgn)]) rfl ?_
 refine St.wf q.vv.1 (fun hvw hvl => ?_)
 refine St.rg ?_
 refine St.boxA (.mk rfl) rfl (fun b3 => ?_)
 refine St.boxA (.mk rfl) rfl (fun b4 => ?_)
 refine St.boxA (.mk rfl) rfl (fun b5 => ?_)
 refine St.asg ?_
 refine St.nil (St.then_normal (St.seq (St.seq (St.rg ?_))))
 refine St.ev _ (Ev.callW hdr ready_spec cb6 (.nil)) rfl ?_
 refine St.ev _ (Ev.not (.mk rfl)) rfl ?_
 refine St.nil (St.then_normal ?_)
 refine St.condf _ rfl rfl ?_
 refine St.skip (St.then_normal (St.seq (St.rg ?_)))
 refine St.ev _ (Ev.fldb0 (.mk rfl) fo49_1) rfl ?_
 refine St.ev _ (Ev.ldb (.mk rfl) Tryd.underlying47 trivial (by rfl)) rfl ?_
 refine St.ev _ (Ev.build (ps := [(1, (.tmp 16))]) (Opds.cons (Opd.mk rfl) Opds.nil) (fun w => bld49_1 q.kv.2 w)) rfl ?_
 refine St.alloc zc49 rfl (fun b7 => ?_)
 refine St.storeA (Opd.mk rfl) (Opd.mk rfl) sz49 (by first | simp only [List.length_cons, List.length_nil] | rfl) (by simp only [List.all_cons, List.all_nil, Bool.and_true, Bool.and_eq_true]; exact ⟨rfl, q.kv.2⟩) ?_
 refine St.nil (St.then_normal (St.seq (St.seq (St.rg ?_))))
 refine St.asg ?_
 refine St.nil (St.then_normal (St.block ?_))
 refine St.nilrow 38 3 ?_
 refine St.rowEqN (.slice none 0 0) (show _ = (renW 0 (q.vars.take 0)).length from rfl) (show _ = rows varR (renW 0 (q.vars.take 0)) from rfl) ?_
 refine St.loopH2 (ι := Nat) (κ := Value) (fun k z T => (8, iv k) :: T) (fun k z => [blk b7 (.cells [z, q.kv.1].toArray 49 (0, 0)), row z 38 3 (renW 0 (q.vars.take k)).length (rows varR (renW 0 (q.vars.take k))), blk b3 (.cells (grmC g).toArray 32 (0, 0)), blk b4 (.cells [q.vv.1, q.kv.1].toArray 49 (0, 0)), blk b5 (.cells (treeC t).toArray 35 (0, 0)), dat (sl varR q.vv.1 q.vars), dat (sl qlnR q.kv.1 q.links), dat (grmD g), dat (queryD q), dat (treeD t), dat tz, dat u8, dat sgn]) (fun k z => k ≤ q.vars.length ∧ z.oneCell' = true) (fun k z => q.vars.length - k) 0 (.slice none 0 0) (Keep.cons 3 rfl (Keep.cons 4 rfl (Keep.cons 5 rfl (Keep.cons 6 rfl (Keep.cons 7 rfl Keep.nil))))) ⟨Nat.zero_le _, rfl⟩ (by repeat (first | exact Sub.nil | refine Sub.cons (by first | rfl | exact congrArg (fun z => some (iv z)) (by first | omega | (dsimp only; omega)) | exact congrArg (fun z => some (Value.bool z)) (by first | assumption | exact Eq.symm (by assumption))) ?_)) (fun _ hw => hw.sub) ?_
 rintro k z ⟨hk, hz⟩
 refine St.seq (St.seq (St.rg ?_))
 refine St.mv ?_
 refine St.ev _ (Ev.fldb0 (.mk rfl) fo49_0) rfl ?_
 refine St.ev _ (Ev.ldb (.mk rfl) Tryd.underlying39 trivial (by rfl)) rfl ?_
 refine St.ev _ (Ev.lensl (.mk rfl) Tryd.underlying39) rfl ?_
 refine St.ev _ (Ev.lss (.mk rfl) (.mk rfl)) rfl ?_
 refine St.nil (St.then_normal ?_)
 refine St.cond _ rfl (fun h22 => ?_) (fun h22 => ?_)
 ·skip
  try simp only [jbAll] at h22
  obtain ⟨va, hva⟩ := some_of_lt (show k < q.vars.length by omega)
  have hrl : (renW 0 (q.vars.take k)).length = k := by rw [renW_len, List.length_take]; omega
  have hrs := renW_take hva
  refine St.skip (St.then_normal (St.seq (St.block (St.seq (St.rg ?_)))))
  refine St.ev _ (Ev.fldb0 (.mk rfl) fo49_0) rfl ?_
  refine St.ev _ (Ev.ldb (.mk rfl) Tryd.underlying39 trivial (by rfl)) rfl ?_
  refine St.mv ?_
  refine St.ev _ (Ev.idxaddr (k := k) (.mk rfl) (.mk rfl) Tryd.underlying39 sz38 (by omega) (by omega)) rfl ?_
  refine St.ev _ (Ev.ldA (.mk rfl) hva Tryd.underlying38 trivial sz38 Cel.eq) rfl ?_
  refine St.alloc zc38 rfl (fun b9 => ?_)
  refine St.storeA (Opd.mk rfl) (Opd.mk rfl) sz38 (by first | simp only [List.length_cons, List.length_nil] | rfl) (by simp only [List.all_cons, List.all_nil, Bool.and_true, Bool.and_eq_true]; exact ⟨rfl, rfl, rfl⟩) ?_
  refine St.nil (St.then_normal (St.seq (St.rg ?_)))
  refine St.mv ?_
  refine St.ev _ (Ev.rem (.mk rfl) (.mk rfl) (by decide)) rfl ?_
  refine St.slot 31 (iv ((k % 10 : Nat) : Int)) rfl (congrArg iv (tmod10 k)) ?_
  refine St.ev _ (Ev.add (.mk rfl) (.mk rfl) (by omega)) rfl ?_
  refine St.ev _ (Ev.convI (.mk rfl) (by rw [Tryd.underlying3]; rfl) Tryd.underlying5) rfl ?_
  refine St.slot 33 (.int .u8 ((UInt8.ofNat (48 + k % 10)).toNat : Int)) rfl (congrArg (Value.int .u8) (byte10 k)) ?_
  refine St.bsl rfl (.cons (.mk rfl) (.cons (.mk rfl) .nil)) Tryd.underlying51 sz5 zv5 rfl rfl (by simp [Value.cells]) rfl rfl (fun b34 => ?_)
  refine St.ev _ (Ev.strrow (nm10 k) (.mk rfl) rfl rfl (by unfold nm10; simp) Tryd.underlying51 Tryd.underlying5 Tryd.underlying9) rfl ?_
  refine St.ev _ (Ev.fldb0 (.mk rfl) fo38_0) rfl ?_
  refine St.store1 (.mk rfl) (.mk rfl) sz9 rfl (by rfl) ?_
  refine St.nil (St.then_normal (St.rg ?_))
  refine St.ev _ (Ev.fldb0 (.mk rfl) fo49_0) rfl ?_
  refine St.ev _ (Ev.ldb (.mk rfl) Tryd.underlying39 trivial (by rfl)) rfl ?_
  refine St.ev _ (Ev.ldbA (.mk rfl) Tryd.underlying38 trivial (by exact sz38)) rfl ?_
  refine St.bsl rfl (.cons (.mk rfl) .nil) Tryd.underlying39 sz38 zv38 rfl rfl (by simp [Value.cells]) rfl rfl (fun b40 => ?_)
  refine St.appendRow (.mk rfl) (.mk rfl) Tryd.underlying39 sz38 zv38 by38 (by simp [Value.oneCell', Value.cells]) (by omega) (by omega) rfl rfl rfl rfl (fun v41 hv41 => ?_)
  refine St.rowEqN v41 (show _ = (renW 0 (q.vars.take (k + 1))).length by rw [hrs]; exact len_snoc) (show _ = rows varR (renW 0 (q.vars.take (k + 1))) by rw [hrs, rows_snoc]; rfl) ?_
  refine St.rowOne v41 (fun h41 _ => ?_)
  refine St.ev _ (Ev.fldb0 (.mk rfl) fo49_0) rfl ?_
  refine St.store1 (.mk rfl) (.mk rfl) sz39 h41 (by rfl) ?_
  refine St.nil (St.in_normal (St.then_normal (St.rg ?_)))
  refine St.mv ?_
  refine St.ev _ (Ev.add (.mk rfl) (.mk rfl) (by omega)) rfl ?_
  refine St.asg ?_
  refine St.nil (St.then_normal ?_)
  refine St.againH2 (k + 1) v41 ⟨by omega, h41⟩ (by first | omega | (dsimp only; omega)) (by repeat (first | exact Sub.nil | refine Sub.cons (by first | rfl | exact congrArg (fun z => some (iv z)) (by first | omega | (dsimp only; omega)) | exact congrArg (fun z => some (Value.bool z)) (by first | assumption | exact Eq.symm (by assumption))) ?_)) (fun _ hw => hw.sub)
 ·skip
  try simp only [jbAll] at h22
  rw [List.take_of_length_le (show q.vars.length ≤ k by omega)]
  refine St.publish z varR (renW 0 q.vars) rfl rfl (renW_wf hvw) ?_
  refine St.mkD (queryD (⟨⟨z, hz⟩, renW 0 q.vars, q.kv, q.links⟩ : QryD)) [sl varR z (renW 0 q.vars), sl qlnR q.kv.1 q.links] (fun ρ h => h) ?_
  refine St.exit (St.then_exit (St.then_exit (St.in_hit (St.then_normal (St.seq (St.rg ?_))))))
  refine St.ev _ (Ev.ldbA (.mk rfl) Tryd.underlying32 trivial (by exact sz32)) rfl ?_
  refine St.ev _ (Ev.ldbA (.mk rfl) Tryd.underlying49 trivial (by exact sz49)) rfl ?_
  refine St.ev _ (Ev.ldbA (.mk rfl) Tryd.underlying35 trivial (by exact sz35)) rfl ?_
  refine St.calldW hdr (Match_spec g q t htw) cb7 (.cons (.mk rfl) (.cons (.mk rfl) (.cons (.mk rfl) .nil))) rfl ?_
  rintro v47 _ ⟨vo1, rfl, hvo1, rfl⟩
  refine St.app1 ?_
  obtain ⟨M1, hM1⟩ : ∃ M, M = matF (gmE g) q.vars q.links (treeE t) := ⟨_, rfl⟩
  rw [← hM1]
  refine St.mv ?_
  refine St.ev _ (Ev.extract (.mk rfl) rfl) rfl ?_
  refine St.ev _ (Ev.extract (.mk rfl) rfl) rfl ?_
  refine St.alloc zc42 rfl (fun b11 => ?_)
  refine St.asg ?_
  refine St.storeA (Opd.mk rfl) (Opd.mk rfl) sz42 (by first | simp only [List.length_cons, List.length_nil] | rfl) rfl ?_
  refine St.nil (St.then_normal (St.seq (St.seq (St.rg ?_))))
  refine St.ev _ (Ev.fldb0 (.mk rfl) fo42_0) rfl ?_
  refine St.ev _ (Ev.ldb (.mk rfl) Tryd.underlying3 trivial (by rfl)) rfl ?_
  refine St.ev _ (Ev.neq (.mk rfl) (.mk rfl)) rfl ?_
  refine St.nil (St.then_normal ?_)
  refine St.cond _ rfl (fun h52 => ?_) (fun h52 => ?_)
  ·skip
   try simp only [jbAll] at h52
   refine St.seq (St.rg ?_)
   refine St.asg ?_
   refine St.nil (St.then_normal (St.rett (St.then_ret ?_)))
   refine St.rets [_] [] Tryd.results4 ⟨rfl, trivial⟩ ?_ (fun _ hw => hw.sub)
   exact be rfl
  ·skip
   try simp only [jbAll] at h52
   have z1 : M1.2.1 = 0 := h52
   have hr := ren_ok (by rw [← hM1]; exact z1)
   have hz2 := (matF_z (by rw [← hM1]; exact z1)).2.2.2.1
   rw [← hM1] at hr hz2
   refine St.skip (St.then_normal (St.seq (St.rg ?_)))
   refine St.ev _ (Ev.ldbA (.mk rfl) Tryd.underlying32 trivial (by exact sz32)) rfl ?_
   refine St.ev _ (Ev.ldbA (.mk rfl) Tryd.underlying49 trivial (by exact sz49)) rfl ?_
   refine St.ev _ (Ev.ldbA (.mk rfl) Tryd.underlying35 trivial (by exact sz35)) rfl ?_
   refine St.calldW hdr (Match_spec g (⟨⟨z, hz⟩, renW 0 q.vars, q.kv, q.links⟩ : QryD) t htw) cb7 (.cons (.mk rfl) (.cons (.mk rfl) (.cons (.mk rfl) .nil))) rfl ?_
   rintro v57 _ ⟨vo2, rfl, hvo2, rfl⟩
   refine St.app1 ?_
   rw [show matF (gmE g) (⟨⟨z, hz⟩, renW 0 q.vars, q.kv, q.links⟩ : QryD).vars (⟨⟨z, hz⟩, renW 0 q.vars, q.kv, q.links⟩ : QryD).links (treeE t) = M1 from hr]
   refine St.mv ?_
   refine St.ev _ (Ev.extract (.mk rfl) rfl) rfl ?_
   refine St.ev _ (Ev.extract (.mk rfl) rfl) rfl ?_
   refine St.asg ?_
   refine St.storeA (Opd.mk rfl) (Opd.mk rfl) sz42 (by first | simp only [List.length_cons, List.length_nil] | rfl) rfl ?_
   refine St.nil (St.then_normal (St.seq (St.rg ?_)))
   refine St.ev _ (Ev.fldb0 (.mk rfl) fo42_0) rfl ?_
   refine St.ev _ (Ev.ldb (.mk rfl) Tryd.underlying3 trivial (by rfl)) rfl ?_
   refine St.ev _ (Ev.eql (.mk rfl) (.mk rfl)) rfl ?_
   refine St.mv ?_
   refine St.gt _ rfl rfl (fun hg => Ev.move (.mk rfl)) rfl ?_
   refine St.gt _ rfl rfl (fun hg => Ev.move (.mk rfl)) rfl ?_
   refine St.gt _ rfl rfl (fun hg => Ev.call (sameIntLists_spec vo1 vo2 (M1.1.map ints) (M1.1.map ints)) cb8 (.cons (Opd.gv rfl hg) (.cons (Opd.gv rfl hg) .nil))) rfl ?_
   refine St.ev _ (Ev.and (.mk rfl) (fun hp => Opd.gv rfl hp)) rfl ?_
   refine St.asg ?_
   refine St.nil (St.then_normal (St.rett ?_))
   refine St.rets [_] [] Tryd.results4 ⟨rfl, trivial⟩ ?_ (fun _ hw => hw.sub)
   exact be (by rw [z1, decide_eq_true (rfl : M1.1.map ints = M1.1.map ints)]; rfl)
end Go.Proofs.YtolmidffiegkaaaDoor
