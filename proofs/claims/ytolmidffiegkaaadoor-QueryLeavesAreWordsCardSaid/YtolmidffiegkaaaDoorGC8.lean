/-
  Several texts in one: YtolmidffiegkaaaDoorQ37.
  Conditions: none.
-/
import Derived.Test.YtolmidffiegkaaaDoorGC7
/-
  The walk of the law LeavesAreWords.
  Conditions: none beyond the sizes.
-/
set_option maxRecDepth 20000
set_option linter.unusedSimpArgs false
set_option linter.unusedVariables false
namespace Go.Proofs.YtolmidffiegkaaaDoor
open Go Go.J
set_option maxHeartbeats 4000000 in
theorem law5_spec (g : GrmD) (t : TreeD) (htw : treeR.wf t) : FnVw Tryd.prog 5 #[grmV g, treeV t] [grmD g, treeD t, tz, u8, sgn] (.bool true) := by
 refine FnVw.body (args := [grmV g, treeV t]) (ds := [grmD g, treeD t, tz, u8, sgn]) 144 Tryd.func5 rfl Tryd.ntmps5 rfl (fun c hdr => ?_)
 refine St.cast (H' := [dat (grmD g), dat (treeD t), dat (tz), dat (u8), dat (sgn)]) rfl ?_
 refine St.seq (St.rg ?_)
 refine St.boxA (.mk rfl) rfl (fun b2 => ?_)
 refine St.boxA (.mk rfl) rfl (fun b3 => ?_)
 refine St.asg ?_
 refine St.nil (St.then_normal (St.seq (St.seq (St.rg ?_))))
 refine St.ev _ (Ev.callW hdr ready_spec cb6 (.nil)) rfl ?_
 refine St.ev _ (Ev.not (.mk rfl)) rfl ?_
 refine St.nil (St.then_normal ?_)
 refine St.condf _ rfl rfl ?_
 refine St.skip (St.then_normal (St.seq (St.rg ?_)))
 refine St.ev _ (Ev.ldbA (.mk rfl) Tryd.underlying32 trivial (by exact sz32)) rfl ?_
 refine St.ev _ (Ev.ldbA (.mk rfl) Tryd.underlying35 trivial (by exact sz35)) rfl ?_
 refine St.calldW hdr (Words_spec g t htw) cb9 (.cons (.mk rfl) (.cons (.mk rfl) .nil)) rfl ?_
 rintro v20 _ ⟨vw, rfl, hvw, rfl⟩
 refine St.app1 ?_
 refine St.mv ?_
 refine St.ev _ (Ev.extract (.mk rfl) rfl) rfl ?_
 refine St.ev _ (Ev.extract (.mk rfl) rfl) rfl ?_
 refine St.alloc zc42 rfl (fun b6 => ?_)
 refine St.asg ?_
 refine St.storeA (Opd.mk rfl) (Opd.mk rfl) sz42 (by first | simp only [List.length_cons, List.length_nil] | rfl) rfl ?_
 refine St.nil (St.then_normal (St.seq (St.seq (St.rg ?_))))
 refine St.ev _ (Ev.fldb0 (.mk rfl) fo42_0) rfl ?_
 refine St.ev _ (Ev.ldb (.mk rfl) Tryd.underlying3 trivial (by rfl)) rfl ?_
 refine St.ev _ (Ev.neq (.mk rfl) (.mk rfl)) rfl ?_
 refine St.nil (St.then_normal ?_)
 refine St.cond _ rfl (fun h25 => ?_) (fun h25 => ?_)
 ·skip
  try simp only [jbAll] at h25
  refine St.seq (St.rg ?_)
  refine St.asg ?_
  refine St.nil (St.then_normal (St.rett (St.then_ret ?_)))
  refine St.rets [_] [] Tryd.results5 ⟨rfl, trivial⟩ ?_ (fun _ hw => hw.sub)
  exact be rfl
 ·skip
  try simp only [jbAll] at h25
  obtain ⟨hg0, ht0, hw0⟩ := valF_z (g := gmE g) (t := treeE t) h25
  rw [hw0]
  have hlv := lv_ok hg0 ht0
  have hcn := hlv.count
  have hfw := hlv.few
  have hps := hlv.pos
  have hwd := lw_wordE hg0 ht0
  refine St.wf vw (fun hwwf _ => ?_)
  refine St.skip (St.then_normal (St.seq (St.rg ?_)))
  refine St.ev _ (Ev.ldbA (.mk rfl) Tryd.underlying32 trivial (by exact sz32)) rfl ?_
  refine St.ev _ (Ev.build (ps := [(0, (.const (.string ⟨#[97]⟩))), (1, (.const (.int .i64 4)))]) (Opds.cons (Opd.mk rfl) (Opds.cons (Opd.mk rfl) Opds.nil)) (fun w => bld38_0_1 rfl rfl w)) rfl ?_
  refine St.bsl rfl (.cons (.mk rfl) .nil) Tryd.underlying39 sz38 zv38 rfl rfl (by simp [Value.cells]) rfl rfl (fun b29 => ?_)
  refine St.publish (.slice (some ⟨b29, 0, none⟩) 1 1) varR [leafV [97]] rfl rfl (varsQ_wf (by decide)) ?_
  refine St.slNil qlnR ?_
  refine St.mkD (queryD ⟨⟨(.slice (some ⟨b29, 0, none⟩) 1 1), rfl⟩, [leafV [97]], ⟨(.slice none 0 0), rfl⟩, []⟩) [sl varR (.slice (some ⟨b29, 0, none⟩) 1 1) [leafV [97]], sl qlnR (.slice none 0 0) []] (fun ρ h => h) ?_
  refine St.ev _ (Ev.build (ps := [(0, (.tmp 29))]) (Opds.cons (Opd.mk rfl) Opds.nil) (fun w => bld49_0 rfl w)) rfl ?_
  refine St.ev _ (Ev.ldbA (.mk rfl) Tryd.underlying35 trivial (by exact sz35)) rfl ?_
  refine St.calldW hdr (Match_spec g (⟨⟨(.slice (some ⟨b29, 0, none⟩) 1 1), rfl⟩, [leafV [97]], ⟨(.slice none 0 0), rfl⟩, []⟩ : QryD) t htw) cb7 (.cons (.mk rfl) (.cons (.mk rfl) (.cons (.mk rfl) .nil))) rfl ?_
  rintro v32 _ ⟨vo1, rfl, hvo1, rfl⟩
  refine St.app1 ?_
  rw [show matF (gmE g) (⟨⟨(.slice (some ⟨b29, 0, none⟩) 1 1), rfl⟩, [leafV [97]], ⟨(.slice none 0 0), rfl⟩, []⟩ : QryD).vars (⟨⟨(.slice (some ⟨b29, 0, none⟩) 1 1), rfl⟩, [leafV [97]], ⟨(.slice none 0 0), rfl⟩, []⟩ : QryD).links (treeE t) = ((lsF (ndT (gmE g) (treeE t) 0 (-1) 0)).map fun i => [i], (0, 0)) from hlv.leaves]
  rw [show ((lsF (ndT (gmE g) (treeE t) 0 (-1) 0)).map fun i => [i], ((0, 0) : Int × Int)).1.map ints = (lsF (ndT (gmE g) (treeE t) 0 (-1) 0)).map fun i => ints [i] from List.map_map ..]
  refine St.mv ?_
  refine St.ev _ (Ev.extract (.mk rfl) rfl) rfl ?_
  refine St.ev _ (Ev.extract (.mk rfl) rfl) rfl ?_
  refine St.asg ?_
  refine St.storeA (Opd.mk rfl) (Opd.mk rfl) sz42 (by first | simp only [List.length_cons, List.length_nil] | rfl) rfl ?_
  refine St.nil (St.then_normal (St.seq (St.seq ?_)))
  refine St.openNs vo1 (fun vs1 hv1 => ?_)
  rw [List.length_map] at hv1
  refine St.rg ?_
  refine St.ev _ (Ev.fldb0 (.mk rfl) fo42_0) rfl ?_
  refine St.ev _ (Ev.ldb (.mk rfl) Tryd.underlying3 trivial (by rfl)) rfl ?_
  refine St.ev _ (Ev.neq (.mk rfl) (.mk rfl)) rfl ?_
  refine St.mv ?_
  refine St.gf _ rfl rfl (fun hg => Ev.move (.mk rfl)) rfl ?_
  refine St.gf _ rfl rfl (fun hg => Ev.lensl (Opd.gv rfl hg) Tryd.underlying40) rfl ?_
  refine St.gf _ rfl rfl (fun hg => Ev.move (.mk rfl)) rfl ?_
  refine St.gf _ rfl rfl (fun hg => Ev.lensl (Opd.gv rfl hg) Tryd.underlying54) rfl ?_
  refine St.gf _ rfl rfl (fun hg => Ev.neq (Opd.gv rfl hg) (Opd.gv rfl hg)) rfl ?_
  refine St.ev _ (Ev.or (.mk rfl) (fun hp => Opd.gv rfl hp)) rfl ?_
  refine St.nil (St.then_normal ?_)
  refine St.condf _ rfl (by rw [hv1, hcn]; simp [fv]) ?_
  refine St.skip (St.then_normal (St.seq (St.seq (St.rg ?_))))
  refine St.asg ?_
  refine St.nil (St.then_normal (St.block ?_))
  refine St.loopH (ι := Nat) (fun i T => (8, iv i) :: T) (fun i => [blk b2 (.cells (grmC g).toArray 32 (0, 0)), blk b3 (.cells (treeC t).toArray 35 (0, 0)), blk b6 (.cells [iv 0, iv 0].toArray 42 (0, 0)), dat (sl valR vo1 vs1), dat (ptw intR vs1 ((lsF (ndT (gmE g) (treeE t) 0 (-1) 0)).map fun i => ints [i])), dat (sl strR vw (lwT (gmE g) (treeE t))), dat (grmD g), dat (treeD t), dat tz, dat u8, dat sgn]) (fun i => i ≤ vs1.length) (fun i => vs1.length - i) 0 (Keep.cons 2 rfl (Keep.cons 3 rfl (Keep.cons 5 rfl (Keep.cons 6 rfl (Keep.cons 7 rfl Keep.nil))))) (Nat.zero_le _) (by repeat (first | exact Sub.nil | refine Sub.cons (by first | rfl | exact congrArg (fun z => some (iv z)) (by first | omega | (dsimp only; omega)) | exact congrArg (fun z => some (Value.bool z)) (by first | assumption | exact Eq.symm (by assumption))) ?_)) (fun _ hw => hw.sub) ?_
  intro i hphi
  refine St.seq (St.seq (St.rg ?_))
  refine St.mv ?_
  refine St.mv ?_
  refine St.ev _ (Ev.lensl (.mk rfl) Tryd.underlying40) rfl ?_
  refine St.ev _ (Ev.lss (.mk rfl) (.mk rfl)) rfl ?_
  refine St.nil (St.then_normal ?_)
  refine St.cond _ rfl (fun h48 => ?_) (fun h48 => ?_)
  ·skip
   try simp only [jbAll] at h48
   obtain ⟨u, hu⟩ := some_of_lt (show i < vs1.length by omega)
   obtain ⟨a, ha⟩ := some_of_lt (show i < (lsF (ndT (gmE g) (treeE t) 0 (-1) 0)).length by omega)
   obtain ⟨w, hw⟩ := some_of_lt (show i < (lwT (gmE g) (treeE t)).length by omega)
   have hwm := List.mem_of_getElem? hw
   have hwk := hwd w hwm
   have hlab := lv_label hg0 ht0 ha hw
   have hmw := lv_word hg0 ht0 hwk
   have hthere := word_there (List.mem_of_getElem? ha) [97]
   rw [hlab] at hthere
   refine St.ptw (vs := vs1) (l := ints [a]) i hu (by rw [List.getElem?_map, ha]; rfl) ?_
   refine St.skip (St.then_normal (St.seq (St.block (St.seq ?_))))
   refine St.parL [] mixed ?_
   refine SW.defer 0 (by repeat (first | refine NP.then ?_ | refine NP.inBlock ?_ | exact NP.body)) (by kernel_rfl) rfl (fun R => Ev.ldbA (.mk rfl) Tryd.underlying32 trivial (by exact sz32)) (by kernel_rfl) rfl ?_
   refine SW.defer 1 (by repeat (first | refine NP.then ?_ | refine NP.inBlock ?_ | exact NP.body)) (by kernel_rfl) rfl (fun R => Ev.move (.mk rfl)) (by kernel_rfl) rfl ?_
   refine SW.defer 2 (by repeat (first | refine NP.then ?_ | refine NP.inBlock ?_ | exact NP.body)) (by kernel_rfl) rfl (fun R => Ev.move (.mk rfl)) (by kernel_rfl) rfl ?_
   refine SW.defer 3 (by repeat (first | refine NP.then ?_ | refine NP.inBlock ?_ | exact NP.body)) (by kernel_rfl) rfl (fun R => Ev.idxaddr (k := i) (.mk rfl) (.mk rfl) Tryd.underlying54 sz9 (by omega) (by omega)) (by kernel_rfl) rfl ?_
   refine SW.defer 4 (by repeat (first | refine NP.then ?_ | refine NP.inBlock ?_ | exact NP.body)) (by kernel_rfl) rfl (fun R => Ev.ld1 (.mk rfl) hw Tryd.underlying9 trivial rfl) (by kernel_rfl) rfl ?_
   refine SW.defer 5 (by repeat (first | refine NP.then ?_ | refine NP.inBlock ?_ | exact NP.body)) (by kernel_rfl) rfl (fun R => Ev.build (ps := [(0, (.const (.string ⟨#[97]⟩))), (1, (.const (.int .i64 3))), (2, (.tmp 56))]) (Opds.cons (Opd.mk rfl) (Opds.cons (Opd.mk rfl) (Opds.cons (Opd.mk rfl) Opds.nil))) (fun w => bld38_0_1_2 rfl rfl rfl w)) (by kernel_rfl) rfl ?_
   refine SW.defer 8 (by repeat (first | refine NP.then ?_ | refine NP.inBlock ?_ | exact NP.body)) (by kernel_rfl) rfl (fun R => Ev.ldbA (.mk rfl) Tryd.underlying35 trivial (by exact sz35)) (by kernel_rfl) rfl ?_
   refine SW.turn2 (i := 6) (j := 13) (by kernel_rfl) rfl rfl ?_ ?_
   ·skip
    refine St.bsl rfl (.cons (.mk rfl) .nil) Tryd.underlying39 sz38 zv38 rfl rfl (by simp [Value.cells]) rfl rfl (fun b58 => ?_)
    refine St.publish (.slice (some ⟨b58, 0, none⟩) 1 1) varR [wordV [97] w] rfl rfl (fun x hx => by rw [List.mem_singleton.1 hx]; exact varQ_wf (by show (1 : Nat) ≤ 1000; decide) (by show -100 ≤ (3 : Int) ∧ (3 : Int) ≤ 100; decide) (hwwf w hwm)) ?_
    refine St.slNil qlnR ?_
    refine St.mkD (queryD ⟨⟨(.slice (some ⟨b58, 0, none⟩) 1 1), rfl⟩, [wordV [97] w], ⟨(.slice none 0 0), rfl⟩, []⟩) [sl varR (.slice (some ⟨b58, 0, none⟩) 1 1) [wordV [97] w], sl qlnR (.slice none 0 0) []] (fun ρ h => h) ?_
    refine St.nil (St.then_normal ?_)
    refine SW.go ?_
    refine SW.defer 7 (by repeat (first | refine NP.then ?_ | refine NP.inBlock ?_ | exact NP.body)) (by kernel_rfl) rfl (fun R => Ev.build (ps := [(0, (.tmp 58))]) (Opds.cons (Opd.mk rfl) Opds.nil) (fun w => bld49_0 rfl w)) (by kernel_rfl) rfl ?_
    refine SW.turn2 (i := 9) (j := 13) (by kernel_rfl) rfl rfl ?_ ?_
    ·skip
     refine St.calldW hdr (Match_spec g (⟨⟨(.slice (some ⟨b58, 0, none⟩) 1 1), rfl⟩, [wordV [97] w], ⟨(.slice none 0 0), rfl⟩, []⟩ : QryD) t htw) cb7 (.cons (.mk rfl) (.cons (.mk rfl) (.cons (.mk rfl) .nil))) rfl ?_
     rintro v61 _ ⟨vo2, rfl, hvo2, rfl⟩
     refine St.app1 ?_
     obtain ⟨E2, hE2⟩ : ∃ E, E = extsF (ndT (gmE g) (treeE t) 0 (-1) 0) [] [wordV [97] w] [] := ⟨_, rfl⟩
     rw [← hE2] at hmw hthere
     rw [show matF (gmE g) (⟨⟨(.slice (some ⟨b58, 0, none⟩) 1 1), rfl⟩, [wordV [97] w], ⟨(.slice none 0 0), rfl⟩, []⟩ : QryD).vars (⟨⟨(.slice (some ⟨b58, 0, none⟩) 1 1), rfl⟩, [wordV [97] w], ⟨(.slice none 0 0), rfl⟩, []⟩ : QryD).links (treeE t) = (E2, (0, 0)) from hmw]
     refine St.openNs vo2 (fun vs2 hv2 => ?_)
     rw [List.length_map] at hv2
     replace hv2 : vs2.length = E2.length := hv2
     have hE5 : E2.length ≤ 500 := by have := matF_few (gmE g) [wordV [97] w] [] (treeE t); rw [hmw] at this; exact this
     refine St.nil (St.then_normal ?_)
     refine SW.go ?_
     refine SW.defer 10 (by repeat (first | refine NP.then ?_ | refine NP.inBlock ?_ | exact NP.body)) (by kernel_rfl) rfl (fun R => Ev.move (.mk rfl)) (by kernel_rfl) rfl ?_
     refine SW.defer 11 (by repeat (first | refine NP.then ?_ | refine NP.inBlock ?_ | exact NP.body)) (by kernel_rfl) rfl (fun R => Ev.extract (.mk rfl) rfl) (by kernel_rfl) rfl ?_
     refine SW.defer 12 (by repeat (first | refine NP.then ?_ | refine NP.inBlock ?_ | exact NP.body)) (by kernel_rfl) rfl (fun R => Ev.extract (.mk rfl) rfl) (by kernel_rfl) rfl ?_
     refine SW.turn1 (i := 13) (by kernel_rfl) rfl ?_
     refine St.alloc zc42 rfl (fun b10 => ?_)
     refine St.nil (St.then_normal ?_)
     refine SW.go ?_
     refine SW.defer 14 (by repeat (first | refine NP.then ?_ | refine NP.inBlock ?_ | exact NP.body)) (by kernel_rfl) rfl (fun R => Ev.assign (.mk rfl)) (by kernel_rfl) rfl ?_
     refine SW.turn1 (i := 15) (by kernel_rfl) rfl ?_
     refine St.storeA (Opd.mk rfl) (Opd.mk rfl) sz42 (by first | simp only [List.length_cons, List.length_nil] | rfl) rfl ?_
     refine St.nil (St.then_normal ?_)
     refine SW.go ?_
     refine SW.done (by kernel_rfl) ?_
     refine St.then_normal (St.seq (St.seq (St.rg ?_)))
     refine St.ev _ (Ev.fldb0 (.mk rfl) fo42_0) rfl ?_
     refine St.ev _ (Ev.ldb (.mk rfl) Tryd.underlying3 trivial (by rfl)) rfl ?_
     refine St.ev _ (Ev.neq (.mk rfl) (.mk rfl)) rfl ?_
     refine St.mv ?_
     refine St.gf _ rfl rfl (fun hg => Ev.move (.mk rfl)) rfl ?_
     refine St.gf _ rfl rfl (fun hg => Ev.move (.mk rfl)) rfl ?_
     refine St.gf _ rfl rfl (fun hg => Ev.idxaddr (k := i) (Opd.gv rfl hg) (Opd.gv rfl hg) Tryd.underlying40 sz57 (by first | omega | (simp only [jbAll] at hg; omega)) (by omega)) rfl ?_
     refine St.gf _ rfl rfl (fun hg => Ev.ld1 (Opd.gv rfl hg) hu Tryd.underlying57 trivial rfl) rfl ?_
     refine St.gf _ rfl rfl (fun hg => Ev.lensl (Opd.gv rfl hg) Tryd.underlying57) rfl ?_
     refine St.gf _ rfl rfl (fun hg => Ev.neq (Opd.gv rfl hg) (.mk rfl)) rfl ?_
     refine St.ev _ (Ev.or (.mk rfl) (fun hp => Opd.gv rfl hp)) rfl ?_
     refine St.nil (St.then_normal ?_)
     refine St.condf _ rfl (by simp [fv, ints]) ?_
     refine St.skip (St.then_normal (St.seq (St.rg ?_)))
     refine St.asg ?_
     refine St.nil (St.then_normal (St.seq (St.seq (St.rg ?_))))
     refine St.asg ?_
     refine St.nil (St.then_normal (St.block ?_))
     refine St.loopS (ι := Nat) (fun k T => (12, iv k) :: (11, .bool ((E2.take k).any (fun y => decide (ints y = ints [a])))) :: T) (fun k => k ≤ vs2.length) (fun k => vs2.length - k) 0 (Keep.cons 2 rfl (Keep.cons 3 rfl (Keep.cons 5 rfl (Keep.cons 6 rfl (Keep.cons 7 rfl (Keep.cons 8 rfl (Keep.cons 9 rfl Keep.nil))))))) (Nat.zero_le _) (by repeat (first | exact Sub.nil | refine Sub.cons (by first | rfl | exact congrArg (fun z => some (iv z)) (by first | omega | (dsimp only; omega)) | exact congrArg (fun z => some (Value.bool z)) (by first | assumption | exact Eq.symm (by assumption))) ?_)) ?_
     intro k hphi
     refine St.seq (St.seq (St.rg ?_))
     refine St.mv ?_
     refine St.mv ?_
     refine St.ev _ (Ev.lensl (.mk rfl) Tryd.underlying40) rfl ?_
     refine St.ev _ (Ev.lss (.mk rfl) (.mk rfl)) rfl ?_
     refine St.nil (St.then_normal ?_)
     refine St.cond _ rfl (fun h78 => ?_) (fun h78 => ?_)
     ·skip
      try simp only [jbAll] at h78
      obtain ⟨x, hx⟩ := some_of_lt (show k < vs2.length by omega)
      obtain ⟨y, hy⟩ := some_of_lt (show k < E2.length by omega)
      refine St.ptw (vs := vs2) (l := ints y) k hx (by rw [List.getElem?_map, hy]; rfl) ?_
      refine St.skip (St.then_normal (St.seq (St.block ?_)))
      refine St.parL [] mixed ?_
      refine SW.defer 0 (by repeat (first | refine NP.then ?_ | refine NP.inBlock ?_ | exact NP.body)) (by kernel_rfl) rfl (fun R => Ev.move (.mk rfl)) (by kernel_rfl) rfl ?_
      refine SW.defer 1 (by repeat (first | refine NP.then ?_ | refine NP.inBlock ?_ | exact NP.body)) (by kernel_rfl) rfl (fun R => Ev.move (.mk rfl)) (by kernel_rfl) rfl ?_
      refine SW.gf 2 _ (by repeat (first | refine NP.then ?_ | refine NP.inBlock ?_ | exact NP.body)) (by kernel_rfl) rfl rfl rfl (fun R hg => Ev.move (.mk rfl)) (by kernel_rfl) rfl ?_
      refine SW.gf 3 _ (by repeat (first | refine NP.then ?_ | refine NP.inBlock ?_ | exact NP.body)) (by kernel_rfl) rfl rfl rfl (fun R hg => Ev.move (.mk rfl)) (by kernel_rfl) rfl ?_
      refine SW.gf 4 _ (by repeat (first | refine NP.then ?_ | refine NP.inBlock ?_ | exact NP.body)) (by kernel_rfl) rfl rfl rfl (fun R hg => Ev.idxaddr (k := k) (Opd.gv rfl hg) (Opd.gv rfl hg) Tryd.underlying40 sz57 (by omega) (by omega)) (by kernel_rfl) rfl ?_
      refine SW.gf 5 _ (by repeat (first | refine NP.then ?_ | refine NP.inBlock ?_ | exact NP.body)) (by kernel_rfl) rfl rfl rfl (fun R hg => Ev.ld1 (Opd.gv rfl hg) hx Tryd.underlying57 trivial rfl) (by kernel_rfl) rfl ?_
      refine SW.gf 6 _ (by repeat (first | refine NP.then ?_ | refine NP.inBlock ?_ | exact NP.body)) (by kernel_rfl) rfl rfl rfl (fun R hg => Ev.move (.mk rfl)) (by kernel_rfl) rfl ?_
      refine SW.gf 7 _ (by repeat (first | refine NP.then ?_ | refine NP.inBlock ?_ | exact NP.body)) (by kernel_rfl) rfl rfl rfl (fun R hg => Ev.move (.mk rfl)) (by kernel_rfl) rfl ?_
      refine SW.gf 8 _ (by repeat (first | refine NP.then ?_ | refine NP.inBlock ?_ | exact NP.body)) (by kernel_rfl) rfl rfl rfl (fun R hg => Ev.idxaddr (k := i) (Opd.gv rfl hg) (Opd.gv rfl hg) Tryd.underlying40 sz57 (by omega) (by omega)) (by kernel_rfl) rfl ?_
      refine SW.gf 9 _ (by repeat (first | refine NP.then ?_ | refine NP.inBlock ?_ | exact NP.body)) (by kernel_rfl) rfl rfl rfl (fun R hg => Ev.ld1 (Opd.gv rfl hg) hu Tryd.underlying57 trivial rfl) (by kernel_rfl) rfl ?_
      refine SW.gf 10 _ (by repeat (first | refine NP.then ?_ | refine NP.inBlock ?_ | exact NP.body)) (by kernel_rfl) rfl rfl rfl (fun R hg => Ev.call (sameInts_spec x.1 u.1 (ints y) (ints [a])) cb10 (.cons (Opd.gv rfl hg) (.cons (Opd.gv rfl hg) .nil))) (by kernel_rfl) rfl ?_
      refine SW.defer 11 (by repeat (first | refine NP.then ?_ | refine NP.inBlock ?_ | exact NP.body)) (by kernel_rfl) rfl (fun R => Ev.or (.mk rfl) (fun hp => Opd.gv rfl hp)) (by kernel_rfl) rfl ?_
      refine SW.defer 12 (by repeat (first | refine NP.then ?_ | refine NP.inBlock ?_ | exact NP.body)) (by kernel_rfl) rfl (fun R => Ev.assign (.mk rfl)) (by kernel_rfl) rfl ?_
      refine SW.done (by kernel_rfl) ?_
      refine St.in_normal (St.then_normal (St.rg ?_))
      refine St.mv ?_
      refine St.ev _ (Ev.add (.mk rfl) (.mk rfl) (by omega)) rfl ?_
      refine St.asg ?_
      refine St.nil (St.then_normal ?_)
      have hstep := any_take_step (f := fun y => decide (ints y = ints [a])) hy rfl
      refine St.slot 11 (.bool ((E2.take (k + 1)).any (fun y => decide (ints y = ints [a])))) rfl (congrArg Value.bool hstep.symm) ?_
      refine St.againS (k + 1) (by omega) (by first | omega | (dsimp only; omega)) (by repeat (first | exact Sub.nil | refine Sub.cons (by first | rfl | exact congrArg (fun z => some (iv z)) (by first | omega | (dsimp only; omega)) | exact congrArg (fun z => some (Value.bool z)) (by first | assumption | exact Eq.symm (by assumption))) ?_)) (fun _ hw => hw.sub)
     ·skip
      try simp only [jbAll] at h78
      have hany : (E2.take k).any (fun y => decide (ints y = ints [a])) = true := by rw [List.take_of_length_le (by omega), List.any_eq_true]; exact ⟨[a], hthere, decide_eq_true rfl⟩
      refine St.exit (St.then_exit (St.then_exit (St.in_hit (St.then_normal (St.seq (St.rg ?_))))))
      refine St.mv ?_
      refine St.ev _ (Ev.not (.mk rfl)) rfl ?_
      refine St.nil (St.then_normal ?_)
      refine St.condf _ rfl (by rw [hany]; rfl) ?_
      refine St.skip (St.in_normal (St.then_normal (St.rg ?_)))
      refine St.mv ?_
      refine St.ev _ (Ev.add (.mk rfl) (.mk rfl) (by omega)) rfl ?_
      refine St.asg ?_
      refine St.nil (St.then_normal ?_)
      refine St.againH (i + 1) (by omega) (by first | omega | (dsimp only; omega)) (by repeat (first | exact Sub.nil | refine Sub.cons (by first | rfl | exact congrArg (fun z => some (iv z)) (by first | omega | (dsimp only; omega)) | exact congrArg (fun z => some (Value.bool z)) (by first | assumption | exact Eq.symm (by assumption))) ?_)) (fun _ hw => hw.sub)
    ·skip
     refine St.alloc zc42 rfl (fun b10 => ?_)
     refine St.nil (St.then_normal ?_)
     refine SW.go ?_
     refine SW.turn1 (i := 9) (by kernel_rfl) rfl ?_
     refine St.calldW hdr (Match_spec g (⟨⟨(.slice (some ⟨b58, 0, none⟩) 1 1), rfl⟩, [wordV [97] w], ⟨(.slice none 0 0), rfl⟩, []⟩ : QryD) t htw) cb7 (.cons (.mk rfl) (.cons (.mk rfl) (.cons (.mk rfl) .nil))) rfl ?_
     rintro v61 _ ⟨vo2, rfl, hvo2, rfl⟩
     refine St.app1 ?_
     obtain ⟨E2, hE2⟩ : ∃ E, E = extsF (ndT (gmE g) (treeE t) 0 (-1) 0) [] [wordV [97] w] [] := ⟨_, rfl⟩
     rw [← hE2] at hmw hthere
     rw [show matF (gmE g) (⟨⟨(.slice (some ⟨b58, 0, none⟩) 1 1), rfl⟩, [wordV [97] w], ⟨(.slice none 0 0), rfl⟩, []⟩ : QryD).vars (⟨⟨(.slice (some ⟨b58, 0, none⟩) 1 1), rfl⟩, [wordV [97] w], ⟨(.slice none 0 0), rfl⟩, []⟩ : QryD).links (treeE t) = (E2, (0, 0)) from hmw]
     refine St.openNs vo2 (fun vs2 hv2 => ?_)
     rw [List.length_map] at hv2
     replace hv2 : vs2.length = E2.length := hv2
     have hE5 : E2.length ≤ 500 := by have := matF_few (gmE g) [wordV [97] w] [] (treeE t); rw [hmw] at this; exact this
     refine St.nil (St.then_normal ?_)
     refine SW.go ?_
     refine SW.defer 10 (by repeat (first | refine NP.then ?_ | refine NP.inBlock ?_ | exact NP.body)) (by kernel_rfl) rfl (fun R => Ev.move (.mk rfl)) (by kernel_rfl) rfl ?_
     refine SW.defer 11 (by repeat (first | refine NP.then ?_ | refine NP.inBlock ?_ | exact NP.body)) (by kernel_rfl) rfl (fun R => Ev.extract (.mk rfl) rfl) (by kernel_rfl) rfl ?_
     refine SW.defer 12 (by repeat (first | refine NP.then ?_ | refine NP.inBlock ?_ | exact NP.body)) (by kernel_rfl) rfl (fun R => Ev.extract (.mk rfl) rfl) (by kernel_rfl) rfl ?_
     refine SW.defer 14 (by repeat (first | refine NP.then ?_ | refine NP.inBlock ?_ | exact NP.body)) (by kernel_rfl) rfl (fun R => Ev.assign (.mk rfl)) (by kernel_rfl) rfl ?_
     refine SW.turn1 (i := 15) (by kernel_rfl) rfl ?_
     refine St.storeA (Opd.mk rfl) (Opd.mk rfl) sz42 (by first | simp only [List.length_cons, List.length_nil] | rfl) rfl ?_
     refine St.nil (St.then_normal ?_)
     refine SW.go ?_
     refine SW.done (by kernel_rfl) ?_
     refine St.then_normal (St.seq (St.seq (St.rg ?_)))
     refine St.ev _ (Ev.fldb0 (.mk rfl) fo42_0) rfl ?_
     refine St.ev _ (Ev.ldb (.mk rfl) Tryd.underlying3 trivial (by rfl)) rfl ?_
     refine St.ev _ (Ev.neq (.mk rfl) (.mk rfl)) rfl ?_
     refine St.mv ?_
     refine St.gf _ rfl rfl (fun hg => Ev.move (.mk rfl)) rfl ?_
     refine St.gf _ rfl rfl (fun hg => Ev.move (.mk rfl)) rfl ?_
     refine St.gf _ rfl rfl (fun hg => Ev.idxaddr (k := i) (Opd.gv rfl hg) (Opd.gv rfl hg) Tryd.underlying40 sz57 (by first | omega | (simp only [jbAll] at hg; omega)) (by omega)) rfl ?_
     refine St.gf _ rfl rfl (fun hg => Ev.ld1 (Opd.gv rfl hg) hu Tryd.underlying57 trivial rfl) rfl ?_
     refine St.gf _ rfl rfl (fun hg => Ev.lensl (Opd.gv rfl hg) Tryd.underlying57) rfl ?_
     refine St.gf _ rfl rfl (fun hg => Ev.neq (Opd.gv rfl hg) (.mk rfl)) rfl ?_
     refine St.ev _ (Ev.or (.mk rfl) (fun hp => Opd.gv rfl hp)) rfl ?_
     refine St.nil (St.then_normal ?_)
     refine St.condf _ rfl (by simp [fv, ints]) ?_
     refine St.skip (St.then_normal (St.seq (St.rg ?_)))
     refine St.asg ?_
     refine St.nil (St.then_normal (St.seq (St.seq (St.rg ?_))))
     refine St.asg ?_
     refine St.nil (St.then_normal (St.block ?_))
     refine St.loopS (ι := Nat) (fun k T => (12, iv k) :: (11, .bool ((E2.take k).any (fun y => decide (ints y = ints [a])))) :: T) (fun k => k ≤ vs2.length) (fun k => vs2.length - k) 0 (Keep.cons 2 rfl (Keep.cons 3 rfl (Keep.cons 5 rfl (Keep.cons 6 rfl (Keep.cons 7 rfl (Keep.cons 8 rfl (Keep.cons 9 rfl Keep.nil))))))) (Nat.zero_le _) (by repeat (first | exact Sub.nil | refine Sub.cons (by first | rfl | exact congrArg (fun z => some (iv z)) (by first | omega | (dsimp only; omega)) | exact congrArg (fun z => some (Value.bool z)) (by first | assumption | exact Eq.symm (by assumption))) ?_)) ?_
     intro k hphi
     refine St.seq (St.seq (St.rg ?_))
     refine St.mv ?_
     refine St.mv ?_
     refine St.ev _ (Ev.lensl (.mk rfl) Tryd.underlying40) rfl ?_
     refine St.ev _ (Ev.lss (.mk rfl) (.mk rfl)) rfl ?_
     refine St.nil (St.then_normal ?_)
     refine St.cond _ rfl (fun h78 => ?_) (fun h78 => ?_)
     ·skip
      try simp only [jbAll] at h78
      obtain ⟨x, hx⟩ := some_of_lt (show k < vs2.length by omega)
      obtain ⟨y, hy⟩ := some_of_lt (show k < E2.length by omega)
      refine St.ptw (vs := vs2) (l := ints y) k hx (by rw [List.getElem?_map, hy]; rfl) ?_
      refine St.skip (St.then_normal (St.seq (St.block ?_)))
      refine St.parL [] mixed ?_
      refine SW.defer 0 (by repeat (first | refine NP.then ?_ | refine NP.inBlock ?_ | exact NP.body)) (by kernel_rfl) rfl (fun R => Ev.move (.mk rfl)) (by kernel_rfl) rfl ?_
      refine SW.defer 1 (by repeat (first | refine NP.then ?_ | refine NP.inBlock ?_ | exact NP.body)) (by kernel_rfl) rfl (fun R => Ev.move (.mk rfl)) (by kernel_rfl) rfl ?_
      refine SW.gf 2 _ (by repeat (first | refine NP.then ?_ | refine NP.inBlock ?_ | exact NP.body)) (by kernel_rfl) rfl rfl rfl (fun R hg => Ev.move (.mk rfl)) (by kernel_rfl) rfl ?_
      refine SW.gf 3 _ (by repeat (first | refine NP.then ?_ | refine NP.inBlock ?_ | exact NP.body)) (by kernel_rfl) rfl rfl rfl (fun R hg => Ev.move (.mk rfl)) (by kernel_rfl) rfl ?_
      refine SW.gf 4 _ (by repeat (first | refine NP.then ?_ | refine NP.inBlock ?_ | exact NP.body)) (by kernel_rfl) rfl rfl rfl (fun R hg => Ev.idxaddr (k := k) (Opd.gv rfl hg) (Opd.gv rfl hg) Tryd.underlying40 sz57 (by omega) (by omega)) (by kernel_rfl) rfl ?_
      refine SW.gf 5 _ (by repeat (first | refine NP.then ?_ | refine NP.inBlock ?_ | exact NP.body)) (by kernel_rfl) rfl rfl rfl (fun R hg => Ev.ld1 (Opd.gv rfl hg) hx Tryd.underlying57 trivial rfl) (by kernel_rfl) rfl ?_
      refine SW.gf 6 _ (by repeat (first | refine NP.then ?_ | refine NP.inBlock ?_ | exact NP.body)) (by kernel_rfl) rfl rfl rfl (fun R hg => Ev.move (.mk rfl)) (by kernel_rfl) rfl ?_
      refine SW.gf 7 _ (by repeat (first | refine NP.then ?_ | refine NP.inBlock ?_ | exact NP.body)) (by kernel_rfl) rfl rfl rfl (fun R hg => Ev.move (.mk rfl)) (by kernel_rfl) rfl ?_
      refine SW.gf 8 _ (by repeat (first | refine NP.then ?_ | refine NP.inBlock ?_ | exact NP.body)) (by kernel_rfl) rfl rfl rfl (fun R hg => Ev.idxaddr (k := i) (Opd.gv rfl hg) (Opd.gv rfl hg) Tryd.underlying40 sz57 (by omega) (by omega)) (by kernel_rfl) rfl ?_
      refine SW.gf 9 _ (by repeat (first | refine NP.then ?_ | refine NP.inBlock ?_ | exact NP.body)) (by kernel_rfl) rfl rfl rfl (fun R hg => Ev.ld1 (Opd.gv rfl hg) hu Tryd.underlying57 trivial rfl) (by kernel_rfl) rfl ?_
      refine SW.gf 10 _ (by repeat (first | refine NP.then ?_ | refine NP.inBlock ?_ | exact NP.body)) (by kernel_rfl) rfl rfl rfl (fun R hg => Ev.call (sameInts_spec x.1 u.1 (ints y) (ints [a])) cb10 (.cons (Opd.gv rfl hg) (.cons (Opd.gv rfl hg) .nil))) (by kernel_rfl) rfl ?_
      refine SW.defer 11 (by repeat (first | refine NP.then ?_ | refine NP.inBlock ?_ | exact NP.body)) (by kernel_rfl) rfl (fun R => Ev.or (.mk rfl) (fun hp => Opd.gv rfl hp)) (by kernel_rfl) rfl ?_
      refine SW.defer 12 (by repeat (first | refine NP.then ?_ | refine NP.inBlock ?_ | exact NP.body)) (by kernel_rfl) rfl (fun R => Ev.assign (.mk rfl)) (by kernel_rfl) rfl ?_
      refine SW.done (by kernel_rfl) ?_
      refine St.in_normal (St.then_normal (St.rg ?_))
      refine St.mv ?_
      refine St.ev _ (Ev.add (.mk rfl) (.mk rfl) (by omega)) rfl ?_
      refine St.asg ?_
      refine St.nil (St.then_normal ?_)
      have hstep := any_take_step (f := fun y => decide (ints y = ints [a])) hy rfl
      refine St.slot 11 (.bool ((E2.take (k + 1)).any (fun y => decide (ints y = ints [a])))) rfl (congrArg Value.bool hstep.symm) ?_
      refine St.againS (k + 1) (by omega) (by first | omega | (dsimp only; omega)) (by repeat (first | exact Sub.nil | refine Sub.cons (by first | rfl | exact congrArg (fun z => some (iv z)) (by first | omega | (dsimp only; omega)) | exact congrArg (fun z => some (Value.bool z)) (by first | assumption | exact Eq.symm (by assumption))) ?_)) (fun _ hw => hw.sub)
     ·skip
      try simp only [jbAll] at h78
      have hany : (E2.take k).any (fun y => decide (ints y = ints [a])) = true := by rw [List.take_of_length_le (by omega), List.any_eq_true]; exact ⟨[a], hthere, decide_eq_true rfl⟩
      refine St.exit (St.then_exit (St.then_exit (St.in_hit (St.then_normal (St.seq (St.rg ?_))))))
      refine St.mv ?_
      refine St.ev _ (Ev.not (.mk rfl)) rfl ?_
      refine St.nil (St.then_normal ?_)
      refine St.condf _ rfl (by rw [hany]; rfl) ?_
      refine St.skip (St.in_normal (St.then_normal (St.rg ?_)))
      refine St.mv ?_
      refine St.ev _ (Ev.add (.mk rfl) (.mk rfl) (by omega)) rfl ?_
      refine St.asg ?_
      refine St.nil (St.then_normal ?_)
      refine St.againH (i + 1) (by omega) (by first | omega | (dsimp only; omega)) (by repeat (first | exact Sub.nil | refine Sub.cons (by first | rfl | exact congrArg (fun z => some (iv z)) (by first | omega | (dsimp only; omega)) | exact congrArg (fun z => some (Value.bool z)) (by first | assumption | exact Eq.symm (by assumption))) ?_)) (fun _ hw => hw.sub)
   ·skip
    refine St.alloc zc42 rfl (fun b10 => ?_)
    refine St.nil (St.then_normal ?_)
    refine SW.go ?_
    refine SW.turn1 (i := 6) (by kernel_rfl) rfl ?_
    refine St.bsl rfl (.cons (.mk rfl) .nil) Tryd.underlying39 sz38 zv38 rfl rfl (by simp [Value.cells]) rfl rfl (fun b58 => ?_)
    refine St.publish (.slice (some ⟨b58, 0, none⟩) 1 1) varR [wordV [97] w] rfl rfl (fun x hx => by rw [List.mem_singleton.1 hx]; exact varQ_wf (by show (1 : Nat) ≤ 1000; decide) (by show -100 ≤ (3 : Int) ∧ (3 : Int) ≤ 100; decide) (hwwf w hwm)) ?_
    refine St.slNil qlnR ?_
    refine St.mkD (queryD ⟨⟨(.slice (some ⟨b58, 0, none⟩) 1 1), rfl⟩, [wordV [97] w], ⟨(.slice none 0 0), rfl⟩, []⟩) [sl varR (.slice (some ⟨b58, 0, none⟩) 1 1) [wordV [97] w], sl qlnR (.slice none 0 0) []] (fun ρ h => h) ?_
    refine St.nil (St.then_normal ?_)
    refine SW.go ?_
    refine SW.defer 7 (by repeat (first | refine NP.then ?_ | refine NP.inBlock ?_ | exact NP.body)) (by kernel_rfl) rfl (fun R => Ev.build (ps := [(0, (.tmp 58))]) (Opds.cons (Opd.mk rfl) Opds.nil) (fun w => bld49_0 rfl w)) (by kernel_rfl) rfl ?_
    refine SW.turn1 (i := 9) (by kernel_rfl) rfl ?_
    refine St.calldW hdr (Match_spec g (⟨⟨(.slice (some ⟨b58, 0, none⟩) 1 1), rfl⟩, [wordV [97] w], ⟨(.slice none 0 0), rfl⟩, []⟩ : QryD) t htw) cb7 (.cons (.mk rfl) (.cons (.mk rfl) (.cons (.mk rfl) .nil))) rfl ?_
    rintro v61 _ ⟨vo2, rfl, hvo2, rfl⟩
    refine St.app1 ?_
    obtain ⟨E2, hE2⟩ : ∃ E, E = extsF (ndT (gmE g) (treeE t) 0 (-1) 0) [] [wordV [97] w] [] := ⟨_, rfl⟩
    rw [← hE2] at hmw hthere
    rw [show matF (gmE g) (⟨⟨(.slice (some ⟨b58, 0, none⟩) 1 1), rfl⟩, [wordV [97] w], ⟨(.slice none 0 0), rfl⟩, []⟩ : QryD).vars (⟨⟨(.slice (some ⟨b58, 0, none⟩) 1 1), rfl⟩, [wordV [97] w], ⟨(.slice none 0 0), rfl⟩, []⟩ : QryD).links (treeE t) = (E2, (0, 0)) from hmw]
    refine St.openNs vo2 (fun vs2 hv2 => ?_)
    rw [List.length_map] at hv2
    replace hv2 : vs2.length = E2.length := hv2
    have hE5 : E2.length ≤ 500 := by have := matF_few (gmE g) [wordV [97] w] [] (treeE t); rw [hmw] at this; exact this
    refine St.nil (St.then_normal ?_)
    refine SW.go ?_
    refine SW.defer 10 (by repeat (first | refine NP.then ?_ | refine NP.inBlock ?_ | exact NP.body)) (by kernel_rfl) rfl (fun R => Ev.move (.mk rfl)) (by kernel_rfl) rfl ?_
    refine SW.defer 11 (by repeat (first | refine NP.then ?_ | refine NP.inBlock ?_ | exact NP.body)) (by kernel_rfl) rfl (fun R => Ev.extract (.mk rfl) rfl) (by kernel_rfl) rfl ?_
    refine SW.defer 12 (by repeat (first | refine NP.then ?_ | refine NP.inBlock ?_ | exact NP.body)) (by kernel_rfl) rfl (fun R => Ev.extract (.mk rfl) rfl) (by kernel_rfl) rfl ?_
    refine SW.defer 14 (by repeat (first | refine NP.then ?_ | refine NP.inBlock ?_ | exact NP.body)) (by kernel_rfl) rfl (fun R => Ev.assign (.mk rfl)) (by kernel_rfl) rfl ?_
    refine SW.turn1 (i := 15) (by kernel_rfl) rfl ?_
    refine St.storeA (Opd.mk rfl) (Opd.mk rfl) sz42 (by first | simp only [List.length_cons, List.length_nil] | rfl) rfl ?_
    refine St.nil (St.then_normal ?_)
    refine SW.go ?_
    refine SW.done (by kernel_rfl) ?_
    refine St.then_normal (St.seq (St.seq (St.rg ?_)))
    refine St.ev _ (Ev.fldb0 (.mk rfl) fo42_0) rfl ?_
    refine St.ev _ (Ev.ldb (.mk rfl) Tryd.underlying3 trivial (by rfl)) rfl ?_
    refine St.ev _ (Ev.neq (.mk rfl) (.mk rfl)) rfl ?_
    refine St.mv ?_
    refine St.gf _ rfl rfl (fun hg => Ev.move (.mk rfl)) rfl ?_
    refine St.gf _ rfl rfl (fun hg => Ev.move (.mk rfl)) rfl ?_
    refine St.gf _ rfl rfl (fun hg => Ev.idxaddr (k := i) (Opd.gv rfl hg) (Opd.gv rfl hg) Tryd.underlying40 sz57 (by first | omega | (simp only [jbAll] at hg; omega)) (by omega)) rfl ?_
    refine St.gf _ rfl rfl (fun hg => Ev.ld1 (Opd.gv rfl hg) hu Tryd.underlying57 trivial rfl) rfl ?_
    refine St.gf _ rfl rfl (fun hg => Ev.lensl (Opd.gv rfl hg) Tryd.underlying57) rfl ?_
    refine St.gf _ rfl rfl (fun hg => Ev.neq (Opd.gv rfl hg) (.mk rfl)) rfl ?_
    refine St.ev _ (Ev.or (.mk rfl) (fun hp => Opd.gv rfl hp)) rfl ?_
    refine St.nil (St.then_normal ?_)
    refine St.condf _ rfl (by simp [fv, ints]) ?_
    refine St.skip (St.then_normal (St.seq (St.rg ?_)))
    refine St.asg ?_
    refine St.nil (St.then_normal (St.seq (St.seq (St.rg ?_))))
    refine St.asg ?_
    refine St.nil (St.then_normal (St.block ?_))
    refine St.loopS (ι := Nat) (fun k T => (12, iv k) :: (11, .bool ((E2.take k).any (fun y => decide (ints y = ints [a])))) :: T) (fun k => k ≤ vs2.length) (fun k => vs2.length - k) 0 (Keep.cons 2 rfl (Keep.cons 3 rfl (Keep.cons 5 rfl (Keep.cons 6 rfl (Keep.cons 7 rfl (Keep.cons 8 rfl (Keep.cons 9 rfl Keep.nil))))))) (Nat.zero_le _) (by repeat (first | exact Sub.nil | refine Sub.cons (by first | rfl | exact congrArg (fun z => some (iv z)) (by first | omega | (dsimp only; omega)) | exact congrArg (fun z => some (Value.bool z)) (by first | assumption | exact Eq.symm (by assumption))) ?_)) ?_
    intro k hphi
    refine St.seq (St.seq (St.rg ?_))
    refine St.mv ?_
    refine St.mv ?_
    refine St.ev _ (Ev.lensl (.mk rfl) Tryd.underlying40) rfl ?_
    refine St.ev _ (Ev.lss (.mk rfl) (.mk rfl)) rfl ?_
    refine St.nil (St.then_normal ?_)
    refine St.cond _ rfl (fun h78 => ?_) (fun h78 => ?_)
    ·skip
     try simp only [jbAll] at h78
     obtain ⟨x, hx⟩ := some_of_lt (show k < vs2.length by omega)
     obtain ⟨y, hy⟩ := some_of_lt (show k < E2.length by omega)
     refine St.ptw (vs := vs2) (l := ints y) k hx (by rw [List.getElem?_map, hy]; rfl) ?_
     refine St.skip (St.then_normal (St.seq (St.block ?_)))
     refine St.parL [] mixed ?_
     refine SW.defer 0 (by repeat (first | refine NP.then ?_ | refine NP.inBlock ?_ | exact NP.body)) (by kernel_rfl) rfl (fun R => Ev.move (.mk rfl)) (by kernel_rfl) rfl ?_
     refine SW.defer 1 (by repeat (first | refine NP.then ?_ | refine NP.inBlock ?_ | exact NP.body)) (by kernel_rfl) rfl (fun R => Ev.move (.mk rfl)) (by kernel_rfl) rfl ?_
     refine SW.gf 2 _ (by repeat (first | refine NP.then ?_ | refine NP.inBlock ?_ | exact NP.body)) (by kernel_rfl) rfl rfl rfl (fun R hg => Ev.move (.mk rfl)) (by kernel_rfl) rfl ?_
     refine SW.gf 3 _ (by repeat (first | refine NP.then ?_ | refine NP.inBlock ?_ | exact NP.body)) (by kernel_rfl) rfl rfl rfl (fun R hg => Ev.move (.mk rfl)) (by kernel_rfl) rfl ?_
     refine SW.gf 4 _ (by repeat (first | refine NP.then ?_ | refine NP.inBlock ?_ | exact NP.body)) (by kernel_rfl) rfl rfl rfl (fun R hg => Ev.idxaddr (k := k) (Opd.gv rfl hg) (Opd.gv rfl hg) Tryd.underlying40 sz57 (by omega) (by omega)) (by kernel_rfl) rfl ?_
     refine SW.gf 5 _ (by repeat (first | refine NP.then ?_ | refine NP.inBlock ?_ | exact NP.body)) (by kernel_rfl) rfl rfl rfl (fun R hg => Ev.ld1 (Opd.gv rfl hg) hx Tryd.underlying57 trivial rfl) (by kernel_rfl) rfl ?_
     refine SW.gf 6 _ (by repeat (first | refine NP.then ?_ | refine NP.inBlock ?_ | exact NP.body)) (by kernel_rfl) rfl rfl rfl (fun R hg => Ev.move (.mk rfl)) (by kernel_rfl) rfl ?_
     refine SW.gf 7 _ (by repeat (first | refine NP.then ?_ | refine NP.inBlock ?_ | exact NP.body)) (by kernel_rfl) rfl rfl rfl (fun R hg => Ev.move (.mk rfl)) (by kernel_rfl) rfl ?_
     refine SW.gf 8 _ (by repeat (first | refine NP.then ?_ | refine NP.inBlock ?_ | exact NP.body)) (by kernel_rfl) rfl rfl rfl (fun R hg => Ev.idxaddr (k := i) (Opd.gv rfl hg) (Opd.gv rfl hg) Tryd.underlying40 sz57 (by omega) (by omega)) (by kernel_rfl) rfl ?_
     refine SW.gf 9 _ (by repeat (first | refine NP.then ?_ | refine NP.inBlock ?_ | exact NP.body)) (by kernel_rfl) rfl rfl rfl (fun R hg => Ev.ld1 (Opd.gv rfl hg) hu Tryd.underlying57 trivial rfl) (by kernel_rfl) rfl ?_
     refine SW.gf 10 _ (by repeat (first | refine NP.then ?_ | refine NP.inBlock ?_ | exact NP.body)) (by kernel_rfl) rfl rfl rfl (fun R hg => Ev.call (sameInts_spec x.1 u.1 (ints y) (ints [a])) cb10 (.cons (Opd.gv rfl hg) (.cons (Opd.gv rfl hg) .nil))) (by kernel_rfl) rfl ?_
     refine SW.defer 11 (by repeat (first | refine NP.then ?_ | refine NP.inBlock ?_ | exact NP.body)) (by kernel_rfl) rfl (fun R => Ev.or (.mk rfl) (fun hp => Opd.gv rfl hp)) (by kernel_rfl) rfl ?_
     refine SW.defer 12 (by repeat (first | refine NP.then ?_ | refine NP.inBlock ?_ | exact NP.body)) (by kernel_rfl) rfl (fun R => Ev.assign (.mk rfl)) (by kernel_rfl) rfl ?_
     refine SW.done (by kernel_rfl) ?_
     refine St.in_normal (St.then_normal (St.rg ?_))
     refine St.mv ?_
     refine St.ev _ (Ev.add (.mk rfl) (.mk rfl) (by omega)) rfl ?_
     refine St.asg ?_
     refine St.nil (St.then_normal ?_)
     have hstep := any_take_step (f := fun y => decide (ints y = ints [a])) hy rfl
     refine St.slot 11 (.bool ((E2.take (k + 1)).any (fun y => decide (ints y = ints [a])))) rfl (congrArg Value.bool hstep.symm) ?_
     refine St.againS (k + 1) (by omega) (by first | omega | (dsimp only; omega)) (by repeat (first | exact Sub.nil | refine Sub.cons (by first | rfl | exact congrArg (fun z => some (iv z)) (by first | omega | (dsimp only; omega)) | exact congrArg (fun z => some (Value.bool z)) (by first | assumption | exact Eq.symm (by assumption))) ?_)) (fun _ hw => hw.sub)
    ·skip
     try simp only [jbAll] at h78
     have hany : (E2.take k).any (fun y => decide (ints y = ints [a])) = true := by rw [List.take_of_length_le (by omega), List.any_eq_true]; exact ⟨[a], hthere, decide_eq_true rfl⟩
     refine St.exit (St.then_exit (St.then_exit (St.in_hit (St.then_normal (St.seq (St.rg ?_))))))
     refine St.mv ?_
     refine St.ev _ (Ev.not (.mk rfl)) rfl ?_
     refine St.nil (St.then_normal ?_)
     refine St.condf _ rfl (by rw [hany]; rfl) ?_
     refine St.skip (St.in_normal (St.then_normal (St.rg ?_)))
     refine St.mv ?_
     refine St.ev _ (Ev.add (.mk rfl) (.mk rfl) (by omega)) rfl ?_
     refine St.asg ?_
     refine St.nil (St.then_normal ?_)
     refine St.againH (i + 1) (by omega) (by first | omega | (dsimp only; omega)) (by repeat (first | exact Sub.nil | refine Sub.cons (by first | rfl | exact congrArg (fun z => some (iv z)) (by first | omega | (dsimp only; omega)) | exact congrArg (fun z => some (Value.bool z)) (by first | assumption | exact Eq.symm (by assumption))) ?_)) (fun _ hw => hw.sub)
  ·skip
   try simp only [jbAll] at h48
   refine St.exit (St.then_exit (St.then_exit (St.in_hit (St.then_normal (St.seq (St.rg ?_))))))
   refine St.ev _ (Ev.ldbA (.mk rfl) Tryd.underlying32 trivial (by exact sz32)) rfl ?_
   refine St.ev _ (Ev.build (ps := [(0, (.const (.string ⟨#[97]⟩))), (1, (.const (.int .i64 4)))]) (Opds.cons (Opd.mk rfl) (Opds.cons (Opd.mk rfl) Opds.nil)) (fun w => bld38_0_1 rfl rfl w)) rfl ?_
   refine St.ev _ (Ev.build (ps := [(0, (.const (.string ⟨#[98]⟩))), (1, (.const (.int .i64 4)))]) (Opds.cons (Opd.mk rfl) (Opds.cons (Opd.mk rfl) Opds.nil)) (fun w => bld38_0_1 rfl rfl w)) rfl ?_
   refine St.bsl rfl (.cons (.mk rfl) (.cons (.mk rfl) .nil)) Tryd.underlying39 sz38 zv38 rfl rfl (by simp [Value.cells]) rfl rfl (fun b99 => ?_)
   refine St.publish (.slice (some ⟨b99, 0, none⟩) 2 2) varR [leafV [97], leafV [98]] rfl rfl (varsQ_wf (by decide)) ?_
   refine St.ev _ (Ev.build (ps := [(0, (.const (.int .i64 4))), (1, (.const (.int .i64 0))), (2, (.const (.int .i64 1)))]) (Opds.cons (Opd.mk rfl) (Opds.cons (Opd.mk rfl) (Opds.cons (Opd.mk rfl) Opds.nil))) (fun w => bld46_0_1_2 rfl rfl rfl w)) rfl ?_
   refine St.bsl rfl (.cons (.mk rfl) .nil) Tryd.underlying47 sz46 zv46 rfl rfl (by simp [Value.cells]) rfl rfl (fun b101 => ?_)
   refine St.publish (.slice (some ⟨b101, 0, none⟩) 1 1) qlnR [⟨4, 0, 1⟩] rfl rfl (linksQ_wf (by decide)) ?_
   refine St.mkD (queryD ⟨⟨(.slice (some ⟨b99, 0, none⟩) 2 2), rfl⟩, [leafV [97], leafV [98]], ⟨(.slice (some ⟨b101, 0, none⟩) 1 1), rfl⟩, [⟨4, 0, 1⟩]⟩) [sl varR (.slice (some ⟨b99, 0, none⟩) 2 2) [leafV [97], leafV [98]], sl qlnR (.slice (some ⟨b101, 0, none⟩) 1 1) [⟨4, 0, 1⟩]] (fun ρ h => h) ?_
   refine St.ev _ (Ev.build (ps := [(0, (.tmp 99)), (1, (.tmp 101))]) (Opds.cons (Opd.mk rfl) (Opds.cons (Opd.mk rfl) Opds.nil)) (fun w => bld49_0_1 rfl rfl w)) rfl ?_
   refine St.ev _ (Ev.ldbA (.mk rfl) Tryd.underlying35 trivial (by exact sz35)) rfl ?_
   refine St.calldW hdr (Match_spec g (⟨⟨(.slice (some ⟨b99, 0, none⟩) 2 2), rfl⟩, [leafV [97], leafV [98]], ⟨(.slice (some ⟨b101, 0, none⟩) 1 1), rfl⟩, [⟨4, 0, 1⟩]⟩ : QryD) t htw) cb7 (.cons (.mk rfl) (.cons (.mk rfl) (.cons (.mk rfl) .nil))) rfl ?_
   rintro v104 _ ⟨vo3, rfl, hvo3, rfl⟩
   refine St.app1 ?_
   obtain ⟨Z, hZ⟩ : ∃ Z, Z = (List.zipWith (fun a b => [a, b]) (lsF (ndT (gmE g) (treeE t) 0 (-1) 0)) (lsF (ndT (gmE g) (treeE t) 0 (-1) 0)).tail) := ⟨_, rfl⟩
   have hnx := hlv.next
   rw [← hZ] at hnx
   rw [show matF (gmE g) (⟨⟨(.slice (some ⟨b99, 0, none⟩) 2 2), rfl⟩, [leafV [97], leafV [98]], ⟨(.slice (some ⟨b101, 0, none⟩) 1 1), rfl⟩, [⟨4, 0, 1⟩]⟩ : QryD).vars (⟨⟨(.slice (some ⟨b99, 0, none⟩) 2 2), rfl⟩, [leafV [97], leafV [98]], ⟨(.slice (some ⟨b101, 0, none⟩) 1 1), rfl⟩, [⟨4, 0, 1⟩]⟩ : QryD).links (treeE t) = (Z, (0, 0)) from hnx]
   refine St.openNs vo3 (fun vs3 hv3 => ?_)
   rw [List.length_map] at hv3
   replace hv3 : vs3.length = Z.length := hv3
   have hzl : Z.length = (lsF (ndT (gmE g) (treeE t) 0 (-1) 0)).length - 1 := by rw [hZ, List.length_zipWith, List.length_tail]; omega
   refine St.mv ?_
   refine St.ev _ (Ev.extract (.mk rfl) rfl) rfl ?_
   refine St.ev _ (Ev.extract (.mk rfl) rfl) rfl ?_
   refine St.asg ?_
   refine St.storeA (Opd.mk rfl) (Opd.mk rfl) sz42 (by first | simp only [List.length_cons, List.length_nil] | rfl) rfl ?_
   refine St.nil (St.then_normal (St.seq (St.seq (St.rg ?_))))
   refine St.ev _ (Ev.fldb0 (.mk rfl) fo42_0) rfl ?_
   refine St.ev _ (Ev.ldb (.mk rfl) Tryd.underlying3 trivial (by rfl)) rfl ?_
   refine St.ev _ (Ev.neq (.mk rfl) (.mk rfl)) rfl ?_
   refine St.mv ?_
   refine St.gf _ rfl rfl (fun hg => Ev.move (.mk rfl)) rfl ?_
   refine St.gf _ rfl rfl (fun hg => Ev.lensl (Opd.gv rfl hg) Tryd.underlying40) rfl ?_
   refine St.gf _ rfl rfl (fun hg => Ev.move (.mk rfl)) rfl ?_
   refine St.gf _ rfl rfl (fun hg => Ev.lensl (Opd.gv rfl hg) Tryd.underlying54) rfl ?_
   refine St.gf _ rfl rfl (fun hg => Ev.sub (Opd.gv rfl hg) (.mk rfl) (by omega)) rfl ?_
   refine St.gf _ rfl rfl (fun hg => Ev.neq (Opd.gv rfl hg) (Opd.gv rfl hg)) rfl ?_
   refine St.ev _ (Ev.or (.mk rfl) (fun hp => Opd.gv rfl hp)) rfl ?_
   refine St.nil (St.then_normal ?_)
   refine St.condf _ rfl (by simp [fv]; omega) ?_
   refine St.skip (St.then_normal (St.seq (St.seq (St.rg ?_))))
   refine St.asg ?_
   refine St.nil (St.then_normal (St.block ?_))
   refine St.loopS (ι := Nat) (fun j T => (14, iv j) :: T) (fun j => j ≤ vs3.length) (fun j => vs3.length - j) 0 (Keep.cons 7 rfl (Keep.cons 13 rfl Keep.nil)) (Nat.zero_le _) (by repeat (first | exact Sub.nil | refine Sub.cons (by first | rfl | exact congrArg (fun z => some (iv z)) (by first | omega | (dsimp only; omega)) | exact congrArg (fun z => some (Value.bool z)) (by first | assumption | exact Eq.symm (by assumption))) ?_)) ?_
   intro j hphi
   refine St.seq (St.seq (St.rg ?_))
   refine St.mv ?_
   refine St.mv ?_
   refine St.ev _ (Ev.lensl (.mk rfl) Tryd.underlying40) rfl ?_
   refine St.ev _ (Ev.lss (.mk rfl) (.mk rfl)) rfl ?_
   refine St.nil (St.then_normal ?_)
   refine St.cond _ rfl (fun h121 => ?_) (fun h121 => ?_)
   ·skip
    try simp only [jbAll] at h121
    obtain ⟨x, hx⟩ := some_of_lt (show j < vs3.length by omega)
    obtain ⟨u1, hu1⟩ := some_of_lt (show j < vs1.length by omega)
    obtain ⟨u2, hu2⟩ := some_of_lt (show j + 1 < vs1.length by omega)
    obtain ⟨a1, ha1⟩ := some_of_lt (show j < (lsF (ndT (gmE g) (treeE t) 0 (-1) 0)).length by omega)
    obtain ⟨a2, ha2⟩ := some_of_lt (show j + 1 < (lsF (ndT (gmE g) (treeE t) 0 (-1) 0)).length by omega)
    have hzj : Z[j]? = some [a1, a2] := by rw [hZ]; exact zip_at ha1 ha2
    refine St.ptw (vs := vs3) (l := ints [a1, a2]) j hx (by rw [List.getElem?_map, hzj]; rfl) ?_
    refine St.ptw (vs := vs1) (l := ints [a1]) j hu1 (by rw [List.getElem?_map, ha1]; rfl) ?_
    refine St.ptw (vs := vs1) (l := ints [a2]) (j + 1) hu2 (by rw [List.getElem?_map, ha2]; rfl) ?_
    refine St.wf u1.1 (fun hwu1 _ => ?_)
    refine St.wf u2.1 (fun hwu2 _ => ?_)
    refine St.skip (St.then_normal (St.seq (St.block (St.seq ?_))))
    refine St.parL [] mixed ?_
    refine SW.defer 0 (by repeat (first | refine NP.then ?_ | refine NP.inBlock ?_ | exact NP.body)) (by kernel_rfl) rfl (fun R => Ev.move (.mk rfl)) (by kernel_rfl) rfl ?_
    refine SW.defer 1 (by repeat (first | refine NP.then ?_ | refine NP.inBlock ?_ | exact NP.body)) (by kernel_rfl) rfl (fun R => Ev.move (.mk rfl)) (by kernel_rfl) rfl ?_
    refine SW.defer 2 (by repeat (first | refine NP.then ?_ | refine NP.inBlock ?_ | exact NP.body)) (by kernel_rfl) rfl (fun R => Ev.idxaddr (k := j) (.mk rfl) (.mk rfl) Tryd.underlying40 sz57 (by omega) (by omega)) (by kernel_rfl) rfl ?_
    refine SW.defer 3 (by repeat (first | refine NP.then ?_ | refine NP.inBlock ?_ | exact NP.body)) (by kernel_rfl) rfl (fun R => Ev.ld1 (.mk rfl) hx Tryd.underlying57 trivial rfl) (by kernel_rfl) rfl ?_
    refine SW.defer 4 (by repeat (first | refine NP.then ?_ | refine NP.inBlock ?_ | exact NP.body)) (by kernel_rfl) rfl (fun R => Ev.move (.mk rfl)) (by kernel_rfl) rfl ?_
    refine SW.defer 5 (by repeat (first | refine NP.then ?_ | refine NP.inBlock ?_ | exact NP.body)) (by kernel_rfl) rfl (fun R => Ev.move (.mk rfl)) (by kernel_rfl) rfl ?_
    refine SW.defer 6 (by repeat (first | refine NP.then ?_ | refine NP.inBlock ?_ | exact NP.body)) (by kernel_rfl) rfl (fun R => Ev.idxaddr (k := j) (.mk rfl) (.mk rfl) Tryd.underlying40 sz57 (by omega) (by omega)) (by kernel_rfl) rfl ?_
    refine SW.defer 7 (by repeat (first | refine NP.then ?_ | refine NP.inBlock ?_ | exact NP.body)) (by kernel_rfl) rfl (fun R => Ev.ld1 (.mk rfl) hu1 Tryd.underlying57 trivial rfl) (by kernel_rfl) rfl ?_
    refine SW.defer 8 (by repeat (first | refine NP.then ?_ | refine NP.inBlock ?_ | exact NP.body)) (by kernel_rfl) rfl (fun R => Ev.idxaddr (k := 0) (.mk rfl) (.mk rfl) Tryd.underlying57 sz3 rfl (by simp [ints])) (by kernel_rfl) rfl ?_
    refine SW.defer 9 (by repeat (first | refine NP.then ?_ | refine NP.inBlock ?_ | exact NP.body)) (by kernel_rfl) rfl (fun R => Ev.ld1 (.mk rfl) (show (ints [a1])[0]? = some (a1 : Int) from rfl) Tryd.underlying3 trivial rfl) (by kernel_rfl) rfl ?_
    refine SW.defer 10 (by repeat (first | refine NP.then ?_ | refine NP.inBlock ?_ | exact NP.body)) (by kernel_rfl) rfl (fun R => Ev.move (.mk rfl)) (by kernel_rfl) rfl ?_
    refine SW.defer 11 (by repeat (first | refine NP.then ?_ | refine NP.inBlock ?_ | exact NP.body)) (by kernel_rfl) rfl (fun R => Ev.move (.mk rfl)) (by kernel_rfl) rfl ?_
    refine SW.defer 12 (by repeat (first | refine NP.then ?_ | refine NP.inBlock ?_ | exact NP.body)) (by kernel_rfl) rfl (fun R => Ev.add (.mk rfl) (.mk rfl) (by omega)) (by kernel_rfl) rfl ?_
    refine SW.defer 13 (by repeat (first | refine NP.then ?_ | refine NP.inBlock ?_ | exact NP.body)) (by kernel_rfl) rfl (fun R => Ev.idxaddr (k := (j + 1)) (.mk rfl) (.mk rfl) Tryd.underlying40 sz57 (by omega) (by omega)) (by kernel_rfl) rfl ?_
    refine SW.defer 14 (by repeat (first | refine NP.then ?_ | refine NP.inBlock ?_ | exact NP.body)) (by kernel_rfl) rfl (fun R => Ev.ld1 (.mk rfl) hu2 Tryd.underlying57 trivial rfl) (by kernel_rfl) rfl ?_
    refine SW.defer 15 (by repeat (first | refine NP.then ?_ | refine NP.inBlock ?_ | exact NP.body)) (by kernel_rfl) rfl (fun R => Ev.idxaddr (k := 0) (.mk rfl) (.mk rfl) Tryd.underlying57 sz3 rfl (by simp [ints])) (by kernel_rfl) rfl ?_
    refine SW.defer 16 (by repeat (first | refine NP.then ?_ | refine NP.inBlock ?_ | exact NP.body)) (by kernel_rfl) rfl (fun R => Ev.ld1 (.mk rfl) (show (ints [a2])[0]? = some (a2 : Int) from rfl) Tryd.underlying3 trivial rfl) (by kernel_rfl) rfl ?_
    refine SW.turn1 (i := 17) (by kernel_rfl) rfl ?_
    refine St.bsl rfl (.cons (.mk rfl) (.cons (.mk rfl) .nil)) Tryd.underlying57 sz3 zv3 rfl rfl (by simp [Value.cells]) rfl rfl (fun b141 => ?_)
    refine St.publish (.slice (some ⟨b141, 0, none⟩) 2 2) intR (ints [a1, a2]) rfl rfl (fun y hy => by rcases List.mem_cons.1 hy with rfl | hy; exact hwu1 _ (List.mem_cons_self ..); rw [List.mem_singleton.1 hy]; exact hwu2 _ (List.mem_cons_self ..)) ?_
    refine St.nil (St.then_normal ?_)
    refine SW.go ?_
    refine SW.turn1 (i := 18) (by kernel_rfl) rfl ?_
    refine St.ev _ (Ev.call (sameInts_spec x.1 (.slice (some ⟨b141, 0, none⟩) 2 2) (ints [a1, a2]) (ints [a1, a2])) cb10 (.cons (.mk rfl) (.cons (.mk rfl) .nil))) rfl ?_
    refine St.nil (St.then_normal ?_)
    refine SW.go ?_
    refine SW.defer 19 (by repeat (first | refine NP.then ?_ | refine NP.inBlock ?_ | exact NP.body)) (by kernel_rfl) rfl (fun R => Ev.not (.mk rfl)) (by kernel_rfl) rfl ?_
    refine SW.done (by kernel_rfl) ?_
    refine St.then_normal ?_
    refine St.condf _ rfl (by rw [decide_eq_true (rfl : ints [a1, a2] = ints [a1, a2])]; rfl) ?_
    refine St.skip (St.in_normal (St.then_normal (St.rg ?_)))
    refine St.mv ?_
    refine St.ev _ (Ev.add (.mk rfl) (.mk rfl) (by omega)) rfl ?_
    refine St.asg ?_
    refine St.nil (St.then_normal ?_)
    refine St.againS (j + 1) (by omega) (by first | omega | (dsimp only; omega)) (by repeat (first | exact Sub.nil | refine Sub.cons (by first | rfl | exact congrArg (fun z => some (iv z)) (by first | omega | (dsimp only; omega)) | exact congrArg (fun z => some (Value.bool z)) (by first | assumption | exact Eq.symm (by assumption))) ?_)) (fun _ hw => hw.sub)
   ·skip
    try simp only [jbAll] at h121
    refine St.exit (St.then_exit (St.then_exit (St.in_hit (St.then_normal (St.seq (St.rg ?_))))))
    refine St.asg ?_
    refine St.nil (St.then_normal (St.rett ?_))
    refine St.rets [_] [] Tryd.results5 ⟨rfl, trivial⟩ ?_ (fun _ hw => hw.sub)
    exact be rfl
end Go.Proofs.YtolmidffiegkaaaDoor
