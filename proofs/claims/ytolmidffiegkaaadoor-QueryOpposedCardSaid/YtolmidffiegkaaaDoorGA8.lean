/-
  Several texts in one: YtolmidffiegkaaaDoorQ35.
  Conditions: none.
-/
import Derived.Test.YtolmidffiegkaaaDoorGA7
/-
  The walk of the law Opposed.
  Conditions: none beyond the sizes.
-/
set_option maxRecDepth 20000
set_option linter.unusedSimpArgs false
set_option linter.unusedVariables false
namespace Go.Proofs.YtolmidffiegkaaaDoor
open Go Go.J
set_option maxHeartbeats 4000000 in
theorem law3_spec (g : GrmD) (t : TreeD) (htw : treeR.wf t) : FnVw Tryd.prog 3 #[grmV g, treeV t] [grmD g, treeD t, tz, u8, sgn] (.bool true) := by
 refine FnVw.body (args := [grmV g, treeV t]) (ds := [grmD g, treeD t, tz, u8, sgn]) 94 Tryd.func3 rfl Tryd.ntmps3 rfl (fun c hdr => ?_)
 refine St.cast (H' := [dat (grmD g), dat (treeD t), dat (tz), dat (u8), dat (sgn)]) rfl ?_
 refine St.seq (St.rg ?_)
 refine St.boxA (.mk rfl) rfl (fun b2 => ?_)
 refine St.boxA (.mk rfl) rfl (fun b3 => ?_)
 refine St.asg ?_
 refine St.nil (St.then_normal (St.seq (St.seq (St.rg ?_))))
 refine St.ev _ (Ev.callW hdr ready_spec cb6 (.nil)) rfl ?_
 refine St.ev _ (Ev.not (.mk rfl)) rfl ?_
 refine St.nil (St.then_normal ?_)
 refine St.condf _ rfl rfl ?_
 refine St.skip (St.then_normal (St.seq (St.rg ?_)))
 refine St.ev _ (Ev.build (ps := [(0, (.const (.string ⟨#[97]⟩))), (1, (.const (.int .i64 1)))]) (Opds.cons (Opd.mk rfl) (Opds.cons (Opd.mk rfl) Opds.nil)) (fun w => bld38_0_1 rfl rfl w)) rfl ?_
 refine St.ev _ (Ev.build (ps := [(0, (.const (.string ⟨#[98]⟩))), (1, (.const (.int .i64 1)))]) (Opds.cons (Opd.mk rfl) (Opds.cons (Opd.mk rfl) Opds.nil)) (fun w => bld38_0_1 rfl rfl w)) rfl ?_
 refine St.bsl rfl (.cons (.mk rfl) (.cons (.mk rfl) .nil)) Tryd.underlying39 sz38 zv38 rfl rfl (by simp [Value.cells]) rfl rfl (fun b19 => ?_)
 refine St.publish (.slice (some ⟨b19, 0, none⟩) 2 2) varR [aV, bV] rfl rfl (varsQ_wf (by decide)) ?_
 refine St.asg ?_
 refine St.nil (St.then_normal (St.seq (St.rg ?_)))
 refine St.ev _ (Ev.ldbA (.mk rfl) Tryd.underlying32 trivial (by exact sz32)) rfl ?_
 refine St.mv ?_
 refine St.ev _ (Ev.build (ps := [(0, (.const (.int .i64 2))), (1, (.const (.int .i64 0))), (2, (.const (.int .i64 1)))]) (Opds.cons (Opd.mk rfl) (Opds.cons (Opd.mk rfl) (Opds.cons (Opd.mk rfl) Opds.nil))) (fun w => bld46_0_1_2 rfl rfl rfl w)) rfl ?_
 refine St.bsl rfl (.cons (.mk rfl) .nil) Tryd.underlying47 sz46 zv46 rfl rfl (by simp [Value.cells]) rfl rfl (fun b24 => ?_)
 refine St.publish (.slice (some ⟨b24, 0, none⟩) 1 1) qlnR [⟨2, 0, 1⟩] rfl rfl (linksQ_wf (by decide)) ?_
 refine St.mkD (queryD ⟨⟨(.slice (some ⟨b19, 0, none⟩) 2 2), rfl⟩, [aV, bV], ⟨(.slice (some ⟨b24, 0, none⟩) 1 1), rfl⟩, [⟨2, 0, 1⟩]⟩) [sl varR (.slice (some ⟨b19, 0, none⟩) 2 2) [aV, bV], sl qlnR (.slice (some ⟨b24, 0, none⟩) 1 1) [⟨2, 0, 1⟩]] (fun ρ h => h) ?_
 refine St.ev _ (Ev.build (ps := [(0, (.tmp 22)), (1, (.tmp 24))]) (Opds.cons (Opd.mk rfl) (Opds.cons (Opd.mk rfl) Opds.nil)) (fun w => bld49_0_1 rfl rfl w)) rfl ?_
 refine St.ev _ (Ev.ldbA (.mk rfl) Tryd.underlying35 trivial (by exact sz35)) rfl ?_
 refine St.calldW hdr (Match_spec g (⟨⟨(.slice (some ⟨b19, 0, none⟩) 2 2), rfl⟩, [aV, bV], ⟨(.slice (some ⟨b24, 0, none⟩) 1 1), rfl⟩, [⟨2, 0, 1⟩]⟩ : QryD) t htw) cb7 (.cons (.mk rfl) (.cons (.mk rfl) (.cons (.mk rfl) .nil))) rfl ?_
 rintro v27 _ ⟨vo1, rfl, hvo1, rfl⟩
 refine St.app1 ?_
 obtain ⟨M1, hM1⟩ : ∃ M, M = matF (gmE g) [aV, bV] [⟨2, 0, 1⟩] (treeE t) := ⟨_, rfl⟩
 rw [show matF (gmE g) (⟨⟨(.slice (some ⟨b19, 0, none⟩) 2 2), rfl⟩, [aV, bV], ⟨(.slice (some ⟨b24, 0, none⟩) 1 1), rfl⟩, [⟨2, 0, 1⟩]⟩ : QryD).vars (⟨⟨(.slice (some ⟨b19, 0, none⟩) 2 2), rfl⟩, [aV, bV], ⟨(.slice (some ⟨b24, 0, none⟩) 1 1), rfl⟩, [⟨2, 0, 1⟩]⟩ : QryD).links (treeE t) = M1 from hM1.symm]
 refine St.mv ?_
 refine St.ev _ (Ev.extract (.mk rfl) rfl) rfl ?_
 refine St.ev _ (Ev.extract (.mk rfl) rfl) rfl ?_
 refine St.alloc zc42 rfl (fun b7 => ?_)
 refine St.asg ?_
 refine St.storeA (Opd.mk rfl) (Opd.mk rfl) sz42 (by first | simp only [List.length_cons, List.length_nil] | rfl) rfl ?_
 refine St.nil (St.then_normal (St.seq (St.rg ?_)))
 refine St.ev _ (Ev.ldbA (.mk rfl) Tryd.underlying32 trivial (by exact sz32)) rfl ?_
 refine St.mv ?_
 refine St.ev _ (Ev.build (ps := [(0, (.const (.int .i64 3))), (1, (.const (.int .i64 0))), (2, (.const (.int .i64 1)))]) (Opds.cons (Opd.mk rfl) (Opds.cons (Opd.mk rfl) (Opds.cons (Opd.mk rfl) Opds.nil))) (fun w => bld46_0_1_2 rfl rfl rfl w)) rfl ?_
 refine St.bsl rfl (.cons (.mk rfl) .nil) Tryd.underlying47 sz46 zv46 rfl rfl (by simp [Value.cells]) rfl rfl (fun b34 => ?_)
 refine St.publish (.slice (some ⟨b34, 0, none⟩) 1 1) qlnR [⟨3, 0, 1⟩] rfl rfl (linksQ_wf (by decide)) ?_
 refine St.mkD (queryD ⟨⟨(.slice (some ⟨b19, 0, none⟩) 2 2), rfl⟩, [aV, bV], ⟨(.slice (some ⟨b34, 0, none⟩) 1 1), rfl⟩, [⟨3, 0, 1⟩]⟩) [sl varR (.slice (some ⟨b19, 0, none⟩) 2 2) [aV, bV], sl qlnR (.slice (some ⟨b34, 0, none⟩) 1 1) [⟨3, 0, 1⟩]] (fun ρ h => h) ?_
 refine St.ev _ (Ev.build (ps := [(0, (.tmp 32)), (1, (.tmp 34))]) (Opds.cons (Opd.mk rfl) (Opds.cons (Opd.mk rfl) Opds.nil)) (fun w => bld49_0_1 rfl rfl w)) rfl ?_
 refine St.ev _ (Ev.ldbA (.mk rfl) Tryd.underlying35 trivial (by exact sz35)) rfl ?_
 refine St.calldW hdr (Match_spec g (⟨⟨(.slice (some ⟨b19, 0, none⟩) 2 2), rfl⟩, [aV, bV], ⟨(.slice (some ⟨b34, 0, none⟩) 1 1), rfl⟩, [⟨3, 0, 1⟩]⟩ : QryD) t htw) cb7 (.cons (.mk rfl) (.cons (.mk rfl) (.cons (.mk rfl) .nil))) rfl ?_
 rintro v37 _ ⟨vo2, rfl, hvo2, rfl⟩
 refine St.app1 ?_
 obtain ⟨M2, hM2⟩ : ∃ M, M = matF (gmE g) [aV, bV] [⟨3, 0, 1⟩] (treeE t) := ⟨_, rfl⟩
 rw [show matF (gmE g) (⟨⟨(.slice (some ⟨b19, 0, none⟩) 2 2), rfl⟩, [aV, bV], ⟨(.slice (some ⟨b34, 0, none⟩) 1 1), rfl⟩, [⟨3, 0, 1⟩]⟩ : QryD).vars (⟨⟨(.slice (some ⟨b19, 0, none⟩) 2 2), rfl⟩, [aV, bV], ⟨(.slice (some ⟨b34, 0, none⟩) 1 1), rfl⟩, [⟨3, 0, 1⟩]⟩ : QryD).links (treeE t) = M2 from hM2.symm]
 refine St.mv ?_
 refine St.ev _ (Ev.extract (.mk rfl) rfl) rfl ?_
 refine St.ev _ (Ev.extract (.mk rfl) rfl) rfl ?_
 refine St.alloc zc42 rfl (fun b9 => ?_)
 refine St.asg ?_
 refine St.storeA (Opd.mk rfl) (Opd.mk rfl) sz42 (by first | simp only [List.length_cons, List.length_nil] | rfl) rfl ?_
 refine St.nil (St.then_normal (St.seq ?_))
 have hsv : slv (.slice (some ⟨b19, 0, none⟩) 2 2) 3 0 1 = (.slice (some ⟨b19, 0, none⟩) 1 2) := by rw [slv_slice]; rfl
 refine St.part (Rr := varR) (xs := [aV, bV]) (.slice (some ⟨b19, 0, none⟩) 2 2) 0 1 (by decide) (by decide) ?_
 rw [show varR.size = 3 from rfl, hsv]
 refine St.mkD (sl varR (.slice (some ⟨b19, 0, none⟩) 1 2) [aV]) [sl varR (.slice (some ⟨b19, 0, none⟩) 1 2) (([aV, bV].drop 0).take (1 - 0))] (fun ρ h => h _ (List.mem_cons_self ..)) ?_
 refine St.slNil qlnR ?_
 refine St.mkD (queryD ⟨⟨(.slice (some ⟨b19, 0, none⟩) 1 2), rfl⟩, [aV], ⟨(.slice none 0 0), rfl⟩, []⟩) [sl varR (.slice (some ⟨b19, 0, none⟩) 1 2) [aV], sl qlnR (.slice none 0 0) []] (fun ρ h => h) ?_
 refine St.parL [] mixed ?_
 refine SW.defer 0 (by repeat (first | refine NP.then ?_ | refine NP.inBlock ?_ | exact NP.body)) (by kernel_rfl) rfl (fun R => Ev.ldbA (.mk rfl) Tryd.underlying32 trivial (by exact sz32)) (by kernel_rfl) rfl ?_
 refine SW.defer 1 (by repeat (first | refine NP.then ?_ | refine NP.inBlock ?_ | exact NP.body)) (by kernel_rfl) rfl (fun R => Ev.move (.mk rfl)) (by kernel_rfl) rfl ?_
 refine SW.defer 2 (by repeat (first | refine NP.then ?_ | refine NP.inBlock ?_ | exact NP.body)) (by kernel_rfl) rfl (fun R => Ev.slicesl_h (h := 1) (.mk rfl) (.mk rfl) Tryd.underlying39 sz38 (by omega) (by decide)) (by kernel_rfl) rfl ?_
 refine SW.slot 43 (.slice (some ⟨b19, 0, none⟩) 1 2) rfl hsv ?_
 refine SW.defer 3 (by repeat (first | refine NP.then ?_ | refine NP.inBlock ?_ | exact NP.body)) (by kernel_rfl) rfl (fun R => Ev.build (ps := [(0, (.tmp 43))]) (Opds.cons (Opd.mk rfl) Opds.nil) (fun w => bld49_0 rfl w)) (by kernel_rfl) rfl ?_
 refine SW.defer 4 (by repeat (first | refine NP.then ?_ | refine NP.inBlock ?_ | exact NP.body)) (by kernel_rfl) rfl (fun R => Ev.ldbA (.mk rfl) Tryd.underlying35 trivial (by exact sz35)) (by kernel_rfl) rfl ?_
 refine SW.turn2 (i := 5) (j := 9) (by kernel_rfl) rfl rfl ?_ ?_
 ·skip
  refine St.calldW hdr (Match_spec g (⟨⟨(.slice (some ⟨b19, 0, none⟩) 1 2), rfl⟩, [aV], ⟨(.slice none 0 0), rfl⟩, []⟩ : QryD) t htw) cb7 (.cons (.mk rfl) (.cons (.mk rfl) (.cons (.mk rfl) .nil))) rfl ?_
  rintro v46 _ ⟨vo3, rfl, hvo3, rfl⟩
  refine St.app1 ?_
  obtain ⟨M3, hM3⟩ : ∃ M, M = matF (gmE g) [aV] [] (treeE t) := ⟨_, rfl⟩
  rw [show matF (gmE g) (⟨⟨(.slice (some ⟨b19, 0, none⟩) 1 2), rfl⟩, [aV], ⟨(.slice none 0 0), rfl⟩, []⟩ : QryD).vars (⟨⟨(.slice (some ⟨b19, 0, none⟩) 1 2), rfl⟩, [aV], ⟨(.slice none 0 0), rfl⟩, []⟩ : QryD).links (treeE t) = M3 from hM3.symm]
  refine St.nil (St.then_normal ?_)
  refine SW.go ?_
  refine SW.defer 6 (by repeat (first | refine NP.then ?_ | refine NP.inBlock ?_ | exact NP.body)) (by kernel_rfl) rfl (fun R => Ev.move (.mk rfl)) (by kernel_rfl) rfl ?_
  refine SW.defer 7 (by repeat (first | refine NP.then ?_ | refine NP.inBlock ?_ | exact NP.body)) (by kernel_rfl) rfl (fun R => Ev.extract (.mk rfl) rfl) (by kernel_rfl) rfl ?_
  refine SW.defer 8 (by repeat (first | refine NP.then ?_ | refine NP.inBlock ?_ | exact NP.body)) (by kernel_rfl) rfl (fun R => Ev.extract (.mk rfl) rfl) (by kernel_rfl) rfl ?_
  refine SW.turn1 (i := 9) (by kernel_rfl) rfl ?_
  refine St.alloc zc42 rfl (fun b11 => ?_)
  refine St.nil (St.then_normal ?_)
  refine SW.go ?_
  refine SW.defer 10 (by repeat (first | refine NP.then ?_ | refine NP.inBlock ?_ | exact NP.body)) (by kernel_rfl) rfl (fun R => Ev.assign (.mk rfl)) (by kernel_rfl) rfl ?_
  refine SW.turn1 (i := 11) (by kernel_rfl) rfl ?_
  refine St.storeA (Opd.mk rfl) (Opd.mk rfl) sz42 (by first | simp only [List.length_cons, List.length_nil] | rfl) rfl ?_
  refine St.nil (St.then_normal ?_)
  refine SW.go ?_
  refine SW.done (by kernel_rfl) ?_
  refine St.then_normal (St.seq (St.seq (St.rg ?_)))
  refine St.ev _ (Ev.fldb0 (.mk rfl) fo42_0) rfl ?_
  refine St.ev _ (Ev.ldb (.mk rfl) Tryd.underlying3 trivial (by rfl)) rfl ?_
  refine St.ev _ (Ev.neq (.mk rfl) (.mk rfl)) rfl ?_
  refine St.mv ?_
  refine St.gf _ rfl rfl (fun hg => Ev.fldb0 (.mk rfl) fo42_0) rfl ?_
  refine St.gf _ rfl rfl (fun hg => Ev.ldb (Opd.gv rfl hg) Tryd.underlying3 trivial (by rfl)) rfl ?_
  refine St.gf _ rfl rfl (fun hg => Ev.neq (Opd.gv rfl hg) (.mk rfl)) rfl ?_
  refine St.ev _ (Ev.or (.mk rfl) (fun hp => Opd.gv rfl hp)) rfl ?_
  refine St.mv ?_
  refine St.gf _ rfl rfl (fun hg => Ev.fldb0 (.mk rfl) fo42_0) rfl ?_
  refine St.gf _ rfl rfl (fun hg => Ev.ldb (Opd.gv rfl hg) Tryd.underlying3 trivial (by rfl)) rfl ?_
  refine St.gf _ rfl rfl (fun hg => Ev.neq (Opd.gv rfl hg) (.mk rfl)) rfl ?_
  refine St.ev _ (Ev.or (.mk rfl) (fun hp => Opd.gv rfl hp)) rfl ?_
  refine St.nil (St.then_normal ?_)
  refine St.cond _ rfl (fun h61 => ?_) (fun h61 => ?_)
  ·skip
   try simp only [jbAll] at h61
   refine St.seq (St.rg ?_)
   refine St.asg ?_
   refine St.nil (St.then_normal (St.rett (St.then_ret ?_)))
   refine St.rets [_] [] Tryd.results3 ⟨rfl, trivial⟩ ?_ (fun _ hw => hw.sub)
   exact be rfl
  ·skip
   try simp only [jbAll] at h61
   obtain ⟨⟨z1, z2⟩, z3⟩ := h61
   obtain ⟨o1, o2, o3, o4, o5⟩ := opp_ok rfl rfl (by rw [← hM1]; exact z1) (by rw [← hM2]; exact z2) (by rw [← hM3]; exact z3)
   rw [← hM1, ← hM2, ← hM3] at o1
   rw [← hM3] at o2
   rw [← hM1] at o3
   rw [← hM2] at o4
   refine St.openNs vo1 (fun vs1 hv1 => ?_)
   refine St.openNs vo2 (fun vs2 hv2 => ?_)
   refine St.openNs vo3 (fun vs3 hv3 => ?_)
   rw [List.length_map] at hv1 hv2 hv3
   have o2b : vs3.length ≤ 1000 := by omega
   refine St.skip (St.then_normal (St.seq (St.rg ?_)))
   refine St.mv ?_
   refine St.ev _ (Ev.lensl (.mk rfl) Tryd.underlying40) rfl ?_
   refine St.asg ?_
   refine St.nil (St.then_normal (St.seq (St.seq (St.rg ?_))))
   refine St.mv ?_
   refine St.ev _ (Ev.lensl (.mk rfl) Tryd.underlying40) rfl ?_
   refine St.mv ?_
   refine St.ev _ (Ev.lensl (.mk rfl) Tryd.underlying40) rfl ?_
   refine St.ev _ (Ev.add (.mk rfl) (.mk rfl) (by omega)) rfl ?_
   refine St.mv ?_
   refine St.mv ?_
   refine St.ev _ (Ev.sub (.mk rfl) (.mk rfl) (by omega)) rfl ?_
   refine St.ev _ (Ev.mul (.mk rfl) (.mk rfl) (mulb _ o2b)) rfl ?_
   refine St.ev _ (Ev.quoW (.mk rfl) (.mk rfl) (by decide)) rfl ?_
   refine St.slot 73 (iv ((vs3.length * (vs3.length - 1) / 2 : Nat) : Int)) rfl (congrArg iv (quo2 _ o2b)) ?_
   refine St.ev _ (Ev.neq (.mk rfl) (.mk rfl)) rfl ?_
   refine St.nil (St.then_normal ?_)
   refine St.condf _ rfl (by rw [hv3, ← o1, ← hv1, ← hv2, Int.natCast_add]; simp) ?_
   refine St.skip (St.then_normal (St.seq (St.rg ?_)))
   refine St.ev _ (Ev.ldbA (.mk rfl) Tryd.underlying32 trivial (by exact sz32)) rfl ?_
   refine St.mv ?_
   refine St.ev _ (Ev.build (ps := [(0, (.const (.int .i64 3))), (1, (.const (.int .i64 0))), (2, (.const (.int .i64 1)))]) (Opds.cons (Opd.mk rfl) (Opds.cons (Opd.mk rfl) (Opds.cons (Opd.mk rfl) Opds.nil))) (fun w => bld46_0_1_2 rfl rfl rfl w)) rfl ?_
   refine St.ev _ (Ev.build (ps := [(0, (.const (.int .i64 3))), (1, (.const (.int .i64 1))), (2, (.const (.int .i64 0)))]) (Opds.cons (Opd.mk rfl) (Opds.cons (Opd.mk rfl) (Opds.cons (Opd.mk rfl) Opds.nil))) (fun w => bld46_0_1_2 rfl rfl rfl w)) rfl ?_
   refine St.bsl rfl (.cons (.mk rfl) (.cons (.mk rfl) .nil)) Tryd.underlying47 sz46 zv46 rfl rfl (by simp [Value.cells]) rfl rfl (fun b80 => ?_)
   refine St.publish (.slice (some ⟨b80, 0, none⟩) 2 2) qlnR [⟨3, 0, 1⟩, ⟨3, 1, 0⟩] rfl rfl (linksQ_wf (by decide)) ?_
   refine St.mkD (queryD ⟨⟨(.slice (some ⟨b19, 0, none⟩) 2 2), rfl⟩, [aV, bV], ⟨(.slice (some ⟨b80, 0, none⟩) 2 2), rfl⟩, [⟨3, 0, 1⟩, ⟨3, 1, 0⟩]⟩) [sl varR (.slice (some ⟨b19, 0, none⟩) 2 2) [aV, bV], sl qlnR (.slice (some ⟨b80, 0, none⟩) 2 2) [⟨3, 0, 1⟩, ⟨3, 1, 0⟩]] (fun ρ h => h) ?_
   refine St.ev _ (Ev.build (ps := [(0, (.tmp 77)), (1, (.tmp 80))]) (Opds.cons (Opd.mk rfl) (Opds.cons (Opd.mk rfl) Opds.nil)) (fun w => bld49_0_1 rfl rfl w)) rfl ?_
   refine St.ev _ (Ev.ldbA (.mk rfl) Tryd.underlying35 trivial (by exact sz35)) rfl ?_
   refine St.calldW hdr (Match_spec g (⟨⟨(.slice (some ⟨b19, 0, none⟩) 2 2), rfl⟩, [aV, bV], ⟨(.slice (some ⟨b80, 0, none⟩) 2 2), rfl⟩, [⟨3, 0, 1⟩, ⟨3, 1, 0⟩]⟩ : QryD) t htw) cb7 (.cons (.mk rfl) (.cons (.mk rfl) (.cons (.mk rfl) .nil))) rfl ?_
   rintro v83 _ ⟨vo4, rfl, hvo4, rfl⟩
   refine St.app1 ?_
   rw [show matF (gmE g) (⟨⟨(.slice (some ⟨b19, 0, none⟩) 2 2), rfl⟩, [aV, bV], ⟨(.slice (some ⟨b80, 0, none⟩) 2 2), rfl⟩, [⟨3, 0, 1⟩, ⟨3, 1, 0⟩]⟩ : QryD).vars (⟨⟨(.slice (some ⟨b19, 0, none⟩) 2 2), rfl⟩, [aV, bV], ⟨(.slice (some ⟨b80, 0, none⟩) 2 2), rfl⟩, [⟨3, 0, 1⟩, ⟨3, 1, 0⟩]⟩ : QryD).links (treeE t) = ([], (0, 0)) from o5]
   refine St.openNs vo4 (fun vs4 hv4 => ?_)
   refine St.mv ?_
   refine St.ev _ (Ev.extract (.mk rfl) rfl) rfl ?_
   refine St.ev _ (Ev.extract (.mk rfl) rfl) rfl ?_
   refine St.alloc zc42 rfl (fun b14 => ?_)
   refine St.asg ?_
   refine St.storeA (Opd.mk rfl) (Opd.mk rfl) sz42 (by first | simp only [List.length_cons, List.length_nil] | rfl) rfl ?_
   refine St.nil (St.then_normal (St.seq (St.rg ?_)))
   refine St.ev _ (Ev.fldb0 (.mk rfl) fo42_0) rfl ?_
   refine St.ev _ (Ev.ldb (.mk rfl) Tryd.underlying3 trivial (by rfl)) rfl ?_
   refine St.ev _ (Ev.eql (.mk rfl) (.mk rfl)) rfl ?_
   refine St.mv ?_
   refine St.gt _ rfl rfl (fun hg => Ev.move (.mk rfl)) rfl ?_
   refine St.gt _ rfl rfl (fun hg => Ev.lensl (Opd.gv rfl hg) Tryd.underlying40) rfl ?_
   refine St.gt _ rfl rfl (fun hg => Ev.eql (Opd.gv rfl hg) (.mk rfl)) rfl ?_
   refine St.ev _ (Ev.and (.mk rfl) (fun hp => Opd.gv rfl hp)) rfl ?_
   refine St.asg ?_
   refine St.nil (St.then_normal (St.rett ?_))
   refine St.rets [_] [] Tryd.results3 ⟨rfl, trivial⟩ ?_ (fun _ hw => hw.sub)
   exact be (by rw [show vs4.length = 0 from hv4]; rfl)
 ·skip
  refine St.alloc zc42 rfl (fun b11 => ?_)
  refine St.nil (St.then_normal ?_)
  refine SW.go ?_
  refine SW.turn1 (i := 5) (by kernel_rfl) rfl ?_
  refine St.calldW hdr (Match_spec g (⟨⟨(.slice (some ⟨b19, 0, none⟩) 1 2), rfl⟩, [aV], ⟨(.slice none 0 0), rfl⟩, []⟩ : QryD) t htw) cb7 (.cons (.mk rfl) (.cons (.mk rfl) (.cons (.mk rfl) .nil))) rfl ?_
  rintro v46 _ ⟨vo3, rfl, hvo3, rfl⟩
  refine St.app1 ?_
  obtain ⟨M3, hM3⟩ : ∃ M, M = matF (gmE g) [aV] [] (treeE t) := ⟨_, rfl⟩
  rw [show matF (gmE g) (⟨⟨(.slice (some ⟨b19, 0, none⟩) 1 2), rfl⟩, [aV], ⟨(.slice none 0 0), rfl⟩, []⟩ : QryD).vars (⟨⟨(.slice (some ⟨b19, 0, none⟩) 1 2), rfl⟩, [aV], ⟨(.slice none 0 0), rfl⟩, []⟩ : QryD).links (treeE t) = M3 from hM3.symm]
  refine St.nil (St.then_normal ?_)
  refine SW.go ?_
  refine SW.defer 6 (by repeat (first | refine NP.then ?_ | refine NP.inBlock ?_ | exact NP.body)) (by kernel_rfl) rfl (fun R => Ev.move (.mk rfl)) (by kernel_rfl) rfl ?_
  refine SW.defer 7 (by repeat (first | refine NP.then ?_ | refine NP.inBlock ?_ | exact NP.body)) (by kernel_rfl) rfl (fun R => Ev.extract (.mk rfl) rfl) (by kernel_rfl) rfl ?_
  refine SW.defer 8 (by repeat (first | refine NP.then ?_ | refine NP.inBlock ?_ | exact NP.body)) (by kernel_rfl) rfl (fun R => Ev.extract (.mk rfl) rfl) (by kernel_rfl) rfl ?_
  refine SW.defer 10 (by repeat (first | refine NP.then ?_ | refine NP.inBlock ?_ | exact NP.body)) (by kernel_rfl) rfl (fun R => Ev.assign (.mk rfl)) (by kernel_rfl) rfl ?_
  refine SW.turn1 (i := 11) (by kernel_rfl) rfl ?_
  refine St.storeA (Opd.mk rfl) (Opd.mk rfl) sz42 (by first | simp only [List.length_cons, List.length_nil] | rfl) rfl ?_
  refine St.nil (St.then_normal ?_)
  refine SW.go ?_
  refine SW.done (by kernel_rfl) ?_
  refine St.then_normal (St.seq (St.seq (St.rg ?_)))
  refine St.ev _ (Ev.fldb0 (.mk rfl) fo42_0) rfl ?_
  refine St.ev _ (Ev.ldb (.mk rfl) Tryd.underlying3 trivial (by rfl)) rfl ?_
  refine St.ev _ (Ev.neq (.mk rfl) (.mk rfl)) rfl ?_
  refine St.mv ?_
  refine St.gf _ rfl rfl (fun hg => Ev.fldb0 (.mk rfl) fo42_0) rfl ?_
  refine St.gf _ rfl rfl (fun hg => Ev.ldb (Opd.gv rfl hg) Tryd.underlying3 trivial (by rfl)) rfl ?_
  refine St.gf _ rfl rfl (fun hg => Ev.neq (Opd.gv rfl hg) (.mk rfl)) rfl ?_
  refine St.ev _ (Ev.or (.mk rfl) (fun hp => Opd.gv rfl hp)) rfl ?_
  refine St.mv ?_
  refine St.gf _ rfl rfl (fun hg => Ev.fldb0 (.mk rfl) fo42_0) rfl ?_
  refine St.gf _ rfl rfl (fun hg => Ev.ldb (Opd.gv rfl hg) Tryd.underlying3 trivial (by rfl)) rfl ?_
  refine St.gf _ rfl rfl (fun hg => Ev.neq (Opd.gv rfl hg) (.mk rfl)) rfl ?_
  refine St.ev _ (Ev.or (.mk rfl) (fun hp => Opd.gv rfl hp)) rfl ?_
  refine St.nil (St.then_normal ?_)
  refine St.cond _ rfl (fun h61 => ?_) (fun h61 => ?_)
  ·skip
   try simp only [jbAll] at h61
   refine St.seq (St.rg ?_)
   refine St.asg ?_
   refine St.nil (St.then_normal (St.rett (St.then_ret ?_)))
   refine St.rets [_] [] Tryd.results3 ⟨rfl, trivial⟩ ?_ (fun _ hw => hw.sub)
   exact be rfl
  ·skip
   try simp only [jbAll] at h61
   obtain ⟨⟨z1, z2⟩, z3⟩ := h61
   obtain ⟨o1, o2, o3, o4, o5⟩ := opp_ok rfl rfl (by rw [← hM1]; exact z1) (by rw [← hM2]; exact z2) (by rw [← hM3]; exact z3)
   rw [← hM1, ← hM2, ← hM3] at o1
   rw [← hM3] at o2
   rw [← hM1] at o3
   rw [← hM2] at o4
   refine St.openNs vo1 (fun vs1 hv1 => ?_)
   refine St.openNs vo2 (fun vs2 hv2 => ?_)
   refine St.openNs vo3 (fun vs3 hv3 => ?_)
   rw [List.length_map] at hv1 hv2 hv3
   have o2b : vs3.length ≤ 1000 := by omega
   refine St.skip (St.then_normal (St.seq (St.rg ?_)))
   refine St.mv ?_
   refine St.ev _ (Ev.lensl (.mk rfl) Tryd.underlying40) rfl ?_
   refine St.asg ?_
   refine St.nil (St.then_normal (St.seq (St.seq (St.rg ?_))))
   refine St.mv ?_
   refine St.ev _ (Ev.lensl (.mk rfl) Tryd.underlying40) rfl ?_
   refine St.mv ?_
   refine St.ev _ (Ev.lensl (.mk rfl) Tryd.underlying40) rfl ?_
   refine St.ev _ (Ev.add (.mk rfl) (.mk rfl) (by omega)) rfl ?_
   refine St.mv ?_
   refine St.mv ?_
   refine St.ev _ (Ev.sub (.mk rfl) (.mk rfl) (by omega)) rfl ?_
   refine St.ev _ (Ev.mul (.mk rfl) (.mk rfl) (mulb _ o2b)) rfl ?_
   refine St.ev _ (Ev.quoW (.mk rfl) (.mk rfl) (by decide)) rfl ?_
   refine St.slot 73 (iv ((vs3.length * (vs3.length - 1) / 2 : Nat) : Int)) rfl (congrArg iv (quo2 _ o2b)) ?_
   refine St.ev _ (Ev.neq (.mk rfl) (.mk rfl)) rfl ?_
   refine St.nil (St.then_normal ?_)
   refine St.condf _ rfl (by rw [hv3, ← o1, ← hv1, ← hv2, Int.natCast_add]; simp) ?_
   refine St.skip (St.then_normal (St.seq (St.rg ?_)))
   refine St.ev _ (Ev.ldbA (.mk rfl) Tryd.underlying32 trivial (by exact sz32)) rfl ?_
   refine St.mv ?_
   refine St.ev _ (Ev.build (ps := [(0, (.const (.int .i64 3))), (1, (.const (.int .i64 0))), (2, (.const (.int .i64 1)))]) (Opds.cons (Opd.mk rfl) (Opds.cons (Opd.mk rfl) (Opds.cons (Opd.mk rfl) Opds.nil))) (fun w => bld46_0_1_2 rfl rfl rfl w)) rfl ?_
   refine St.ev _ (Ev.build (ps := [(0, (.const (.int .i64 3))), (1, (.const (.int .i64 1))), (2, (.const (.int .i64 0)))]) (Opds.cons (Opd.mk rfl) (Opds.cons (Opd.mk rfl) (Opds.cons (Opd.mk rfl) Opds.nil))) (fun w => bld46_0_1_2 rfl rfl rfl w)) rfl ?_
   refine St.bsl rfl (.cons (.mk rfl) (.cons (.mk rfl) .nil)) Tryd.underlying47 sz46 zv46 rfl rfl (by simp [Value.cells]) rfl rfl (fun b80 => ?_)
   refine St.publish (.slice (some ⟨b80, 0, none⟩) 2 2) qlnR [⟨3, 0, 1⟩, ⟨3, 1, 0⟩] rfl rfl (linksQ_wf (by decide)) ?_
   refine St.mkD (queryD ⟨⟨(.slice (some ⟨b19, 0, none⟩) 2 2), rfl⟩, [aV, bV], ⟨(.slice (some ⟨b80, 0, none⟩) 2 2), rfl⟩, [⟨3, 0, 1⟩, ⟨3, 1, 0⟩]⟩) [sl varR (.slice (some ⟨b19, 0, none⟩) 2 2) [aV, bV], sl qlnR (.slice (some ⟨b80, 0, none⟩) 2 2) [⟨3, 0, 1⟩, ⟨3, 1, 0⟩]] (fun ρ h => h) ?_
   refine St.ev _ (Ev.build (ps := [(0, (.tmp 77)), (1, (.tmp 80))]) (Opds.cons (Opd.mk rfl) (Opds.cons (Opd.mk rfl) Opds.nil)) (fun w => bld49_0_1 rfl rfl w)) rfl ?_
   refine St.ev _ (Ev.ldbA (.mk rfl) Tryd.underlying35 trivial (by exact sz35)) rfl ?_
   refine St.calldW hdr (Match_spec g (⟨⟨(.slice (some ⟨b19, 0, none⟩) 2 2), rfl⟩, [aV, bV], ⟨(.slice (some ⟨b80, 0, none⟩) 2 2), rfl⟩, [⟨3, 0, 1⟩, ⟨3, 1, 0⟩]⟩ : QryD) t htw) cb7 (.cons (.mk rfl) (.cons (.mk rfl) (.cons (.mk rfl) .nil))) rfl ?_
   rintro v83 _ ⟨vo4, rfl, hvo4, rfl⟩
   refine St.app1 ?_
   rw [show matF (gmE g) (⟨⟨(.slice (some ⟨b19, 0, none⟩) 2 2), rfl⟩, [aV, bV], ⟨(.slice (some ⟨b80, 0, none⟩) 2 2), rfl⟩, [⟨3, 0, 1⟩, ⟨3, 1, 0⟩]⟩ : QryD).vars (⟨⟨(.slice (some ⟨b19, 0, none⟩) 2 2), rfl⟩, [aV, bV], ⟨(.slice (some ⟨b80, 0, none⟩) 2 2), rfl⟩, [⟨3, 0, 1⟩, ⟨3, 1, 0⟩]⟩ : QryD).links (treeE t) = ([], (0, 0)) from o5]
   refine St.openNs vo4 (fun vs4 hv4 => ?_)
   refine St.mv ?_
   refine St.ev _ (Ev.extract (.mk rfl) rfl) rfl ?_
   refine St.ev _ (Ev.extract (.mk rfl) rfl) rfl ?_
   refine St.alloc zc42 rfl (fun b14 => ?_)
   refine St.asg ?_
   refine St.storeA (Opd.mk rfl) (Opd.mk rfl) sz42 (by first | simp only [List.length_cons, List.length_nil] | rfl) rfl ?_
   refine St.nil (St.then_normal (St.seq (St.rg ?_)))
   refine St.ev _ (Ev.fldb0 (.mk rfl) fo42_0) rfl ?_
   refine St.ev _ (Ev.ldb (.mk rfl) Tryd.underlying3 trivial (by rfl)) rfl ?_
   refine St.ev _ (Ev.eql (.mk rfl) (.mk rfl)) rfl ?_
   refine St.mv ?_
   refine St.gt _ rfl rfl (fun hg => Ev.move (.mk rfl)) rfl ?_
   refine St.gt _ rfl rfl (fun hg => Ev.lensl (Opd.gv rfl hg) Tryd.underlying40) rfl ?_
   refine St.gt _ rfl rfl (fun hg => Ev.eql (Opd.gv rfl hg) (.mk rfl)) rfl ?_
   refine St.ev _ (Ev.and (.mk rfl) (fun hp => Opd.gv rfl hp)) rfl ?_
   refine St.asg ?_
   refine St.nil (St.then_normal (St.rett ?_))
   refine St.rets [_] [] Tryd.results3 ⟨rfl, trivial⟩ ?_ (fun _ hw => hw.sub)
   exact be (by rw [show vs4.length = 0 from hv4]; rfl)
end Go.Proofs.YtolmidffiegkaaaDoor
