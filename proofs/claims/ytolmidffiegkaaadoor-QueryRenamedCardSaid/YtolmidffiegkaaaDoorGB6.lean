/-
  Several texts in one: YtolmidffiegkaaaDoorQ3, YtolmidffiegkaaaDoorStrO, YtolmidffiegkaaaDoorSufP, YtolmidffiegkaaaDoorSufQ, YtolmidffiegkaaaDoorSufR, YtolmidffiegkaaaDoorConP, YtolmidffiegkaaaDoorQ4, YtolmidffiegkaaaDoorQ5.
  Conditions: none.
-/
import Derived.Test.YtolmidffiegkaaaDoorGB5
import Derived.Test.YtolmidffiegkaaaDoorGB2
import Derived.Test.YtolmidffiegkaaaDoorGB1
/-
  (YtolmidffiegkaaaDoorQ3)
  The walk of the meanings of the sample grammar's rules.
  Conditions: none beyond the sizes.
-/
set_option maxRecDepth 20000
set_option linter.unusedSimpArgs false
set_option linter.unusedVariables false
namespace Go.Proofs.YtolmidffiegkaaaDoor
open Go Go.J
theorem dall_of {n : Nat} {F : Fr} {c : Ctx} {H : List Ent} {T : Act → World → Prop} {α : Type} (f : α → Dat) (xs : List α) (ds : List Dat) (hds : ds = xs.map f) [hd : InDs ds H] (k : St n F (Mm c (dat (dall f xs) :: H)) T) : St n F (Mm c H) T :=
 St.mkD (dall f xs) ds (fun ρ h x hx => h _ (by rw [hds]; exact List.mem_map_of_mem hx)) k
theorem all_cons {α : Type} {p : α → Prop} {x : α} {l : List α} (h : p x) (k : ∀ y ∈ l, p y) : ∀ y ∈ x :: l, p y := fun y hy => by
 rcases List.mem_cons.1 hy with rfl | hy
 ·exact h
 ·exact k y hy
theorem all_nil {α : Type} {p : α → Prop} : ∀ y ∈ ([] : List α), p y := fun y hy => by cases hy
def meansE : List Tm0 := [(abs0 (fn0 (fn0 (.mk [101] []) (.mk [116] [])) (.mk [116] [])) (abs0 (fn0 (.mk [101] []) (.mk [116] [])) (app0 (bd0 1) (bd0 0)))), (abs0 (fn0 (fn0 (.mk [101] []) (.mk [116] [])) (fn0 (fn0 (.mk [101] []) (.mk [116] [])) (.mk [116] []))) (abs0 (fn0 (.mk [101] []) (.mk [116] [])) (app0 (bd0 1) (bd0 0)))), (abs0 (fn0 (.mk [101] []) (.mk [116] [])) (bd0 0)), (abs0 (fn0 (.mk [101] []) (fn0 (.mk [101] []) (.mk [116] []))) (abs0 (fn0 (fn0 (.mk [101] []) (.mk [116] [])) (.mk [116] [])) (abs0 (.mk [101] []) (app0 (bd0 1) (abs0 (.mk [101] []) (app0 (app0 (bd0 3) (bd0 1)) (bd0 0))))))), (abs0 (fn0 (.mk [116] []) (.mk [116] [])) (abs0 (fn0 (.mk [101] []) (.mk [116] [])) (abs0 (.mk [101] []) (app0 (bd0 2) (app0 (bd0 1) (bd0 0)))))), (abs0 (fn0 (fn0 (.mk [101] []) (.mk [116] [])) (.mk [116] [])) (abs0 (fn0 (.mk [116] []) (fn0 (.mk [116] []) (.mk [116] []))) (abs0 (fn0 (fn0 (.mk [101] []) (.mk [116] [])) (.mk [116] [])) (abs0 (fn0 (.mk [101] []) (.mk [116] [])) (app0 (app0 (bd0 2) (app0 (bd0 3) (bd0 0))) (app0 (bd0 1) (bd0 0)))))))]
set_option maxHeartbeats 4000000 in
theorem meanings_spec : FnH Tryd.prog 28 #[.bool false] ([].map dat) (fun v H' => H' = [dat (isTerms meansE v)]) := by
 refine FnH.body (args := [.bool false]) 128 Tryd.func28 rfl Tryd.ntmps28 rfl (fun c => ?_)
 refine St.cast (H' := []) rfl ?_
 refine St.seq (St.rg ?_)
 refine St.asg ?_
 refine St.nil (St.then_normal (St.seq (St.rg ?_)))
 refine St.calld (base_spec [101] (by decide)) cb25 (.cons (.mk rfl) .nil) rfl ?_
 rintro v10 _ rfl
 refine St.app1 ?_
 refine St.isSim (.mk [101] []) v10 (fun xe hxe => ?_)
 obtain ⟨hxeV, hxeE, hxew⟩ := hxe
 subst hxeV
 refine St.calld (base_spec [116] (by decide)) cb25 (.cons (.mk rfl) .nil) rfl ?_
 rintro v11 _ rfl
 refine St.app1 ?_
 refine St.isSim (.mk [116] []) v11 (fun xt hxt => ?_)
 obtain ⟨hxtV, hxtE, hxtw⟩ := hxt
 subst hxtV
 refine St.alloc zc77 rfl (fun b3 => ?_)
 refine St.alloc zc77 rfl (fun b4 => ?_)
 refine St.storeA (Opd.mk rfl) (Opd.mk rfl) sz77 (by first | simp only [List.length_cons, List.length_nil] | rfl) (by simp only [List.all_cons, List.all_nil, Bool.and_true, Bool.and_eq_true]; exact ⟨rfl, xe.av.2⟩) ?_
 refine St.storeA (Opd.mk rfl) (Opd.mk rfl) sz77 (by first | simp only [List.length_cons, List.length_nil] | rfl) (by simp only [List.all_cons, List.all_nil, Bool.and_true, Bool.and_eq_true]; exact ⟨rfl, xt.av.2⟩) ?_
 refine St.nil (St.then_normal (St.seq (St.rg ?_)))
 refine St.ev _ (Ev.ldbA (.mk rfl) Tryd.underlying77 trivial (by exact sz77)) rfl ?_
 refine St.ev _ (Ev.ldbA (.mk rfl) Tryd.underlying77 trivial (by exact sz77)) rfl ?_
 refine St.calld (fun_spec (simV xe) (simV xt) (.mk [101] []) (.mk [116] [])) cb26 (.cons (.mk rfl) (.cons (.mk rfl) .nil)) rfl ?_
 rintro v14 _ rfl
 refine St.app1 ?_
 refine St.isSim (fn0 (.mk [101] []) (.mk [116] [])) v14 (fun xp hxp => ?_)
 obtain ⟨hxpV, hxpE, hxpw⟩ := hxp
 subst hxpV
 refine St.alloc zc77 rfl (fun b5 => ?_)
 refine St.storeA (Opd.mk rfl) (Opd.mk rfl) sz77 (by first | simp only [List.length_cons, List.length_nil] | rfl) (by simp only [List.all_cons, List.all_nil, Bool.and_true, Bool.and_eq_true]; exact ⟨rfl, xp.av.2⟩) ?_
 refine St.nil (St.then_normal (St.seq (St.rg ?_)))
 refine St.ev _ (Ev.ldbA (.mk rfl) Tryd.underlying77 trivial (by exact sz77)) rfl ?_
 refine St.ev _ (Ev.ldbA (.mk rfl) Tryd.underlying77 trivial (by exact sz77)) rfl ?_
 refine St.calld (fun_spec (simV xp) (simV xt) (fn0 (.mk [101] []) (.mk [116] [])) (.mk [116] [])) cb26 (.cons (.mk rfl) (.cons (.mk rfl) .nil)) rfl ?_
 rintro v17 _ rfl
 refine St.app1 ?_
 refine St.isSim (fn0 (fn0 (.mk [101] []) (.mk [116] [])) (.mk [116] [])) v17 (fun xq hxq => ?_)
 obtain ⟨hxqV, hxqE, hxqw⟩ := hxq
 subst hxqV
 refine St.alloc zc77 rfl (fun b6 => ?_)
 refine St.storeA (Opd.mk rfl) (Opd.mk rfl) sz77 (by first | simp only [List.length_cons, List.length_nil] | rfl) (by simp only [List.all_cons, List.all_nil, Bool.and_true, Bool.and_eq_true]; exact ⟨rfl, xq.av.2⟩) ?_
 refine St.nil (St.then_normal (St.seq (St.rg ?_)))
 refine St.ev _ (Ev.ldbA (.mk rfl) Tryd.underlying77 trivial (by exact sz77)) rfl ?_
 refine St.ev _ (Ev.ldbA (.mk rfl) Tryd.underlying77 trivial (by exact sz77)) rfl ?_
 refine St.calld (fun_spec (simV xe) (simV xp) (.mk [101] []) (fn0 (.mk [101] []) (.mk [116] []))) cb26 (.cons (.mk rfl) (.cons (.mk rfl) .nil)) rfl ?_
 rintro v20 _ rfl
 refine St.app1 ?_
 refine St.isSim (fn0 (.mk [101] []) (fn0 (.mk [101] []) (.mk [116] []))) v20 (fun xr hxr => ?_)
 obtain ⟨hxrV, hxrE, hxrw⟩ := hxr
 subst hxrV
 refine St.alloc zc77 rfl (fun b7 => ?_)
 refine St.storeA (Opd.mk rfl) (Opd.mk rfl) sz77 (by first | simp only [List.length_cons, List.length_nil] | rfl) (by simp only [List.all_cons, List.all_nil, Bool.and_true, Bool.and_eq_true]; exact ⟨rfl, xr.av.2⟩) ?_
 refine St.nil (St.then_normal (St.seq (St.rg ?_)))
 refine St.ev _ (Ev.ldbA (.mk rfl) Tryd.underlying77 trivial (by exact sz77)) rfl ?_
 refine St.ev _ (Ev.ldbA (.mk rfl) Tryd.underlying77 trivial (by exact sz77)) rfl ?_
 refine St.calld (fun_spec (simV xp) (simV xq) (fn0 (.mk [101] []) (.mk [116] [])) (fn0 (fn0 (.mk [101] []) (.mk [116] [])) (.mk [116] []))) cb26 (.cons (.mk rfl) (.cons (.mk rfl) .nil)) rfl ?_
 rintro v23 _ rfl
 refine St.app1 ?_
 refine St.isSim (fn0 (fn0 (.mk [101] []) (.mk [116] [])) (fn0 (fn0 (.mk [101] []) (.mk [116] [])) (.mk [116] []))) v23 (fun xd hxd => ?_)
 obtain ⟨hxdV, hxdE, hxdw⟩ := hxd
 subst hxdV
 refine St.alloc zc77 rfl (fun b8 => ?_)
 refine St.storeA (Opd.mk rfl) (Opd.mk rfl) sz77 (by first | simp only [List.length_cons, List.length_nil] | rfl) (by simp only [List.all_cons, List.all_nil, Bool.and_true, Bool.and_eq_true]; exact ⟨rfl, xd.av.2⟩) ?_
 refine St.nil (St.then_normal (St.seq ?_))
 refine St.bag 67 24 [] (⟨24, [], fun u => eqD u ((simV xq))⟩::⟨25, [], fun u => eqD u ((simV xp))⟩::⟨26, [], fun u => isTerm (bd0 1) u⟩::⟨27, [], fun u => isTerm (bd0 0) u⟩::⟨28, [2, 3], fun u => isTerm (app0 (bd0 1) (bd0 0)) u⟩::⟨29, [1, 4], fun u => isTerm (abs0 (fn0 (.mk [101] []) (.mk [116] [])) (app0 (bd0 1) (bd0 0))) u⟩::⟨30, [0, 5], fun u => isTerm (abs0 (fn0 (fn0 (.mk [101] []) (.mk [116] [])) (.mk [116] [])) (abs0 (fn0 (.mk [101] []) (.mk [116] [])) (app0 (bd0 1) (bd0 0)))) u⟩::⟨31, [], fun u => eqD u ((simV xd))⟩::⟨32, [], fun u => eqD u ((simV xp))⟩::⟨33, [], fun u => isTerm (bd0 1) u⟩::⟨34, [], fun u => isTerm (bd0 0) u⟩::⟨35, [9, 10], fun u => isTerm (app0 (bd0 1) (bd0 0)) u⟩::⟨36, [8, 11], fun u => isTerm (abs0 (fn0 (.mk [101] []) (.mk [116] [])) (app0 (bd0 1) (bd0 0))) u⟩::⟨37, [7, 12], fun u => isTerm (abs0 (fn0 (fn0 (.mk [101] []) (.mk [116] [])) (fn0 (fn0 (.mk [101] []) (.mk [116] [])) (.mk [116] []))) (abs0 (fn0 (.mk [101] []) (.mk [116] [])) (app0 (bd0 1) (bd0 0)))) u⟩::⟨38, [], fun u => eqD u ((simV xp))⟩::⟨39, [], fun u => isTerm (bd0 0) u⟩::⟨40, [14, 15], fun u => isTerm (abs0 (fn0 (.mk [101] []) (.mk [116] [])) (bd0 0)) u⟩::⟨41, [], fun u => eqD u ((simV xr))⟩::⟨42, [], fun u => eqD u ((simV xq))⟩::⟨43, [], fun u => eqD u ((simV xe))⟩::⟨44, [], fun u => isTerm (bd0 1) u⟩::⟨45, [], fun u => eqD u ((simV xe))⟩::⟨46, [], fun u => isTerm (bd0 3) u⟩::⟨47, [], fun u => isTerm (bd0 1) u⟩::⟨48, [22, 23], fun u => isTerm (app0 (bd0 3) (bd0 1)) u⟩::⟨49, [], fun u => isTerm (bd0 0) u⟩::⟨50, [24, 25], fun u => isTerm (app0 (app0 (bd0 3) (bd0 1)) (bd0 0)) u⟩::⟨51, [21, 26], fun u => isTerm (abs0 (.mk [101] []) (app0 (app0 (bd0 3) (bd0 1)) (bd0 0))) u⟩::⟨52, [20, 27], fun u => isTerm (app0 (bd0 1) (abs0 (.mk [101] []) (app0 (app0 (bd0 3) (bd0 1)) (bd0 0)))) u⟩::⟨53, [19, 28], fun u => isTerm (abs0 (.mk [101] []) (app0 (bd0 1) (abs0 (.mk [101] []) (app0 (app0 (bd0 3) (bd0 1)) (bd0 0))))) u⟩::⟨54, [18, 29], fun u => isTerm (abs0 (fn0 (fn0 (.mk [101] []) (.mk [116] [])) (.mk [116] [])) (abs0 (.mk [101] []) (app0 (bd0 1) (abs0 (.mk [101] []) (app0 (app0 (bd0 3) (bd0 1)) (bd0 0)))))) u⟩::⟨55, [17, 30], fun u => isTerm (abs0 (fn0 (.mk [101] []) (fn0 (.mk [101] []) (.mk [116] []))) (abs0 (fn0 (fn0 (.mk [101] []) (.mk [116] [])) (.mk [116] [])) (abs0 (.mk [101] []) (app0 (bd0 1) (abs0 (.mk [101] []) (app0 (app0 (bd0 3) (bd0 1)) (bd0 0))))))) u⟩::⟨56, [], fun u => eqD u ((simV xt))⟩::⟨57, [], fun u => eqD u ((simV xt))⟩::⟨58, [32, 33], fun u => isSim (fn0 (.mk [116] []) (.mk [116] [])) u⟩::⟨59, [], fun u => eqD u ((simV xp))⟩::⟨60, [], fun u => eqD u ((simV xe))⟩::⟨61, [], fun u => isTerm (bd0 2) u⟩::⟨62, [], fun u => isTerm (bd0 1) u⟩::⟨63, [], fun u => isTerm (bd0 0) u⟩::⟨64, [38, 39], fun u => isTerm (app0 (bd0 1) (bd0 0)) u⟩::⟨65, [37, 40], fun u => isTerm (app0 (bd0 2) (app0 (bd0 1) (bd0 0))) u⟩::⟨66, [36, 41], fun u => isTerm (abs0 (.mk [101] []) (app0 (bd0 2) (app0 (bd0 1) (bd0 0)))) u⟩::⟨67, [35, 42], fun u => isTerm (abs0 (fn0 (.mk [101] []) (.mk [116] [])) (abs0 (.mk [101] []) (app0 (bd0 2) (app0 (bd0 1) (bd0 0))))) u⟩::⟨68, [34, 43], fun u => isTerm (abs0 (fn0 (.mk [116] []) (.mk [116] [])) (abs0 (fn0 (.mk [101] []) (.mk [116] [])) (abs0 (.mk [101] []) (app0 (bd0 2) (app0 (bd0 1) (bd0 0)))))) u⟩::⟨69, [], fun u => eqD u ((simV xq))⟩::⟨70, [], fun u => eqD u ((simV xt))⟩::⟨71, [], fun u => eqD u ((simV xt))⟩::⟨72, [], fun u => eqD u ((simV xt))⟩::⟨73, [47, 48], fun u => isSim (fn0 (.mk [116] []) (.mk [116] [])) u⟩::⟨74, [46, 49], fun u => isSim (fn0 (.mk [116] []) (fn0 (.mk [116] []) (.mk [116] []))) u⟩::⟨75, [], fun u => eqD u ((simV xq))⟩::⟨76, [], fun u => eqD u ((simV xp))⟩::⟨77, [], fun u => isTerm (bd0 2) u⟩::⟨78, [], fun u => isTerm (bd0 3) u⟩::⟨79, [], fun u => isTerm (bd0 0) u⟩::⟨80, [54, 55], fun u => isTerm (app0 (bd0 3) (bd0 0)) u⟩::⟨81, [53, 56], fun u => isTerm (app0 (bd0 2) (app0 (bd0 3) (bd0 0))) u⟩::⟨82, [], fun u => isTerm (bd0 1) u⟩::⟨83, [], fun u => isTerm (bd0 0) u⟩::⟨84, [58, 59], fun u => isTerm (app0 (bd0 1) (bd0 0)) u⟩::⟨85, [57, 60], fun u => isTerm (app0 (app0 (bd0 2) (app0 (bd0 3) (bd0 0))) (app0 (bd0 1) (bd0 0))) u⟩::⟨86, [52, 61], fun u => isTerm (abs0 (fn0 (.mk [101] []) (.mk [116] [])) (app0 (app0 (bd0 2) (app0 (bd0 3) (bd0 0))) (app0 (bd0 1) (bd0 0)))) u⟩::⟨87, [51, 62], fun u => isTerm (abs0 (fn0 (fn0 (.mk [101] []) (.mk [116] [])) (.mk [116] [])) (abs0 (fn0 (.mk [101] []) (.mk [116] [])) (app0 (app0 (bd0 2) (app0 (bd0 3) (bd0 0))) (app0 (bd0 1) (bd0 0))))) u⟩::⟨88, [50, 63], fun u => isTerm (abs0 (fn0 (.mk [116] []) (fn0 (.mk [116] []) (.mk [116] []))) (abs0 (fn0 (fn0 (.mk [101] []) (.mk [116] [])) (.mk [116] [])) (abs0 (fn0 (.mk [101] []) (.mk [116] [])) (app0 (app0 (bd0 2) (app0 (bd0 3) (bd0 0))) (app0 (bd0 1) (bd0 0)))))) u⟩::⟨89, [45, 64], fun u => isTerm (abs0 (fn0 (fn0 (.mk [101] []) (.mk [116] [])) (.mk [116] [])) (abs0 (fn0 (.mk [116] []) (fn0 (.mk [116] []) (.mk [116] []))) (abs0 (fn0 (fn0 (.mk [101] []) (.mk [116] [])) (.mk [116] [])) (abs0 (fn0 (.mk [101] []) (.mk [116] [])) (app0 (app0 (bd0 2) (app0 (bd0 3) (bd0 0))) (app0 (bd0 1) (bd0 0))))))) u⟩::⟨90, [6, 13, 16, 31, 44, 65], fun u => isTerms meansE u⟩::[]) ((24, [])::(25, [])::(26, [])::(27, [])::(28, [2, 3])::(29, [1, 4])::(30, [0, 5])::(31, [])::(32, [])::(33, [])::(34, [])::(35, [9, 10])::(36, [8, 11])::(37, [7, 12])::(38, [])::(39, [])::(40, [14, 15])::(41, [])::(42, [])::(43, [])::(44, [])::(45, [])::(46, [])::(47, [])::(48, [22, 23])::(49, [])::(50, [24, 25])::(51, [21, 26])::(52, [20, 27])::(53, [19, 28])::(54, [18, 29])::(55, [17, 30])::(56, [])::(57, [])::(58, [32, 33])::(59, [])::(60, [])::(61, [])::(62, [])::(63, [])::(64, [38, 39])::(65, [37, 40])::(66, [36, 41])::(67, [35, 42])::(68, [34, 43])::(69, [])::(70, [])::(71, [])::(72, [])::(73, [47, 48])::(74, [46, 49])::(75, [])::(76, [])::(77, [])::(78, [])::(79, [])::(80, [54, 55])::(81, [53, 56])::(82, [])::(83, [])::(84, [58, 59])::(85, [57, 60])::(86, [52, 61])::(87, [51, 62])::(88, [50, 63])::(89, [45, 64])::(90, [6, 13, 16, 31, 44, 65])::[]) [66] rfl rfl mixed (by kernel_rfl) (by kernel_rfl) (by rfl) (fun e => [(90, e 66)]) (fun e => [dat (isTerms meansE (e 66))]) (fun _ => rfl) (fun _ => rfl) ?_ (fun e => ?_)
 ·skip
  refine Hops.cons (Hop.mk (fun e => []) (fun e => []) (fun _ => rfl) (fun _ => rfl) (fun c e hdr2 => ?_)) ?_
  ·skip
   refine St.app0 ?_
   refine St.ev _ (Ev.ldbA (.mk rfl) Tryd.underlying77 trivial (by exact sz77)) rfl ?_
   refine St.fact (eqD ((simV xq)) ((simV xq))) (fun _ _ _ => rfl) ?_
   refine St.nil (St.then_normal ?_)
   exact St.bagged _ rfl _ rfl
  refine Hops.cons (Hop.mk (fun e => []) (fun e => []) (fun _ => rfl) (fun _ => rfl) (fun c e hdr2 => ?_)) ?_
  ·skip
   refine St.app0 ?_
   refine St.ev _ (Ev.ldbA (.mk rfl) Tryd.underlying77 trivial (by exact sz77)) rfl ?_
   refine St.fact (eqD ((simV xp)) ((simV xp))) (fun _ _ _ => rfl) ?_
   refine St.nil (St.then_normal ?_)
   exact St.bagged _ rfl _ rfl
  refine Hops.cons (Hop.mk (fun e => []) (fun e => []) (fun _ => rfl) (fun _ => rfl) (fun c e hdr2 => ?_)) ?_
  ·skip
   refine St.app0 ?_
   refine St.calld (bound_spec 1 (by unfold i64ok; decide)) cb35 (.cons (.mk rfl) .nil) rfl ?_
   rintro v26 _ rfl
   refine St.app1 ?_
   refine St.nil (St.then_normal ?_)
   exact St.bagged _ rfl _ rfl
  refine Hops.cons (Hop.mk (fun e => []) (fun e => []) (fun _ => rfl) (fun _ => rfl) (fun c e hdr2 => ?_)) ?_
  ·skip
   refine St.app0 ?_
   refine St.calld (bound_spec 0 (by unfold i64ok; decide)) cb35 (.cons (.mk rfl) .nil) rfl ?_
   rintro v27 _ rfl
   refine St.app1 ?_
   refine St.nil (St.then_normal ?_)
   exact St.bagged _ rfl _ rfl
  refine Hops.cons (Hop.mk (fun e => [(26, e 2), (27, e 3)]) (fun e => [dat (isTerm (bd0 1) (e 2)), dat (isTerm (bd0 0) (e 3))]) (fun _ => rfl) (fun _ => rfl) (fun c e hdr2 => ?_)) ?_
  ·skip
   refine St.app2 ?_
   refine St.calld (app_spec (e 2) (e 3) (bd0 1) (bd0 0)) cb34 (.cons (.mk rfl) (.cons (.mk rfl) .nil)) rfl ?_
   rintro v28 _ rfl
   refine St.app1 ?_
   refine St.nil (St.then_normal ?_)
   exact St.bagged _ rfl _ rfl
  refine Hops.cons (Hop.mk (fun e => [(25, e 1), (28, e 4)]) (fun e => [dat (eqD (e 1) ((simV xp))), dat (isTerm (app0 (bd0 1) (bd0 0)) (e 4))]) (fun _ => rfl) (fun _ => rfl) (fun c e hdr2 => ?_)) ?_
  ·skip
   refine St.app2 ?_
   refine St.eqSlot (P := Tryd.prog) 25 (e 1) ((simV xp)) rfl ?_
   refine St.calld (abs_spec (simV xp) (e 4) (fn0 (.mk [101] []) (.mk [116] [])) (app0 (bd0 1) (bd0 0))) cb33 (.cons (.mk rfl) (.cons (.mk rfl) .nil)) rfl ?_
   rintro v29 _ rfl
   refine St.app1 ?_
   refine St.nil (St.then_normal ?_)
   exact St.bagged _ rfl _ rfl
  refine Hops.cons (Hop.mk (fun e => [(24, e 0), (29, e 5)]) (fun e => [dat (eqD (e 0) ((simV xq))), dat (isTerm (abs0 (fn0 (.mk [101] []) (.mk [116] [])) (app0 (bd0 1) (bd0 0))) (e 5))]) (fun _ => rfl) (fun _ => rfl) (fun c e hdr2 => ?_)) ?_
  ·skip
   refine St.app2 ?_
   refine St.eqSlot (P := Tryd.prog) 24 (e 0) ((simV xq)) rfl ?_
   refine St.calld (abs_spec (simV xq) (e 5) (fn0 (fn0 (.mk [101] []) (.mk [116] [])) (.mk [116] [])) (abs0 (fn0 (.mk [101] []) (.mk [116] [])) (app0 (bd0 1) (bd0 0)))) cb33 (.cons (.mk rfl) (.cons (.mk rfl) .nil)) rfl ?_
   rintro v30 _ rfl
   refine St.app1 ?_
   refine St.nil (St.then_normal ?_)
   exact St.bagged _ rfl _ rfl
  refine Hops.cons (Hop.mk (fun e => []) (fun e => []) (fun _ => rfl) (fun _ => rfl) (fun c e hdr2 => ?_)) ?_
  ·skip
   refine St.app0 ?_
   refine St.ev _ (Ev.ldbA (.mk rfl) Tryd.underlying77 trivial (by exact sz77)) rfl ?_
   refine St.fact (eqD ((simV xd)) ((simV xd))) (fun _ _ _ => rfl) ?_
   refine St.nil (St.then_normal ?_)
   exact St.bagged _ rfl _ rfl
  refine Hops.cons (Hop.mk (fun e => []) (fun e => []) (fun _ => rfl) (fun _ => rfl) (fun c e hdr2 => ?_)) ?_
  ·skip
   refine St.app0 ?_
   refine St.ev _ (Ev.ldbA (.mk rfl) Tryd.underlying77 trivial (by exact sz77)) rfl ?_
   refine St.fact (eqD ((simV xp)) ((simV xp))) (fun _ _ _ => rfl) ?_
   refine St.nil (St.then_normal ?_)
   exact St.bagged _ rfl _ rfl
  refine Hops.cons (Hop.mk (fun e => []) (fun e => []) (fun _ => rfl) (fun _ => rfl) (fun c e hdr2 => ?_)) ?_
  ·skip
   refine St.app0 ?_
   refine St.calld (bound_spec 1 (by unfold i64ok; decide)) cb35 (.cons (.mk rfl) .nil) rfl ?_
   rintro v33 _ rfl
   refine St.app1 ?_
   refine St.nil (St.then_normal ?_)
   exact St.bagged _ rfl _ rfl
  refine Hops.cons (Hop.mk (fun e => []) (fun e => []) (fun _ => rfl) (fun _ => rfl) (fun c e hdr2 => ?_)) ?_
  ·skip
   refine St.app0 ?_
   refine St.calld (bound_spec 0 (by unfold i64ok; decide)) cb35 (.cons (.mk rfl) .nil) rfl ?_
   rintro v34 _ rfl
   refine St.app1 ?_
   refine St.nil (St.then_normal ?_)
   exact St.bagged _ rfl _ rfl
  refine Hops.cons (Hop.mk (fun e => [(33, e 9), (34, e 10)]) (fun e => [dat (isTerm (bd0 1) (e 9)), dat (isTerm (bd0 0) (e 10))]) (fun _ => rfl) (fun _ => rfl) (fun c e hdr2 => ?_)) ?_
  ·skip
   refine St.app2 ?_
   refine St.calld (app_spec (e 9) (e 10) (bd0 1) (bd0 0)) cb34 (.cons (.mk rfl) (.cons (.mk rfl) .nil)) rfl ?_
   rintro v35 _ rfl
   refine St.app1 ?_
   refine St.nil (St.then_normal ?_)
   exact St.bagged _ rfl _ rfl
  refine Hops.cons (Hop.mk (fun e => [(32, e 8), (35, e 11)]) (fun e => [dat (eqD (e 8) ((simV xp))), dat (isTerm (app0 (bd0 1) (bd0 0)) (e 11))]) (fun _ => rfl) (fun _ => rfl) (fun c e hdr2 => ?_)) ?_
  ·skip
   refine St.app2 ?_
   refine St.eqSlot (P := Tryd.prog) 32 (e 8) ((simV xp)) rfl ?_
   refine St.calld (abs_spec (simV xp) (e 11) (fn0 (.mk [101] []) (.mk [116] [])) (app0 (bd0 1) (bd0 0))) cb33 (.cons (.mk rfl) (.cons (.mk rfl) .nil)) rfl ?_
   rintro v36 _ rfl
   refine St.app1 ?_
   refine St.nil (St.then_normal ?_)
   exact St.bagged _ rfl _ rfl
  refine Hops.cons (Hop.mk (fun e => [(31, e 7), (36, e 12)]) (fun e => [dat (eqD (e 7) ((simV xd))), dat (isTerm (abs0 (fn0 (.mk [101] []) (.mk [116] [])) (app0 (bd0 1) (bd0 0))) (e 12))]) (fun _ => rfl) (fun _ => rfl) (fun c e hdr2 => ?_)) ?_
  ·skip
   refine St.app2 ?_
   refine St.eqSlot (P := Tryd.prog) 31 (e 7) ((simV xd)) rfl ?_
   refine St.calld (abs_spec (simV xd) (e 12) (fn0 (fn0 (.mk [101] []) (.mk [116] [])) (fn0 (fn0 (.mk [101] []) (.mk [116] [])) (.mk [116] []))) (abs0 (fn0 (.mk [101] []) (.mk [116] [])) (app0 (bd0 1) (bd0 0)))) cb33 (.cons (.mk rfl) (.cons (.mk rfl) .nil)) rfl ?_
   rintro v37 _ rfl
   refine St.app1 ?_
   refine St.nil (St.then_normal ?_)
   exact St.bagged _ rfl _ rfl
  refine Hops.cons (Hop.mk (fun e => []) (fun e => []) (fun _ => rfl) (fun _ => rfl) (fun c e hdr2 => ?_)) ?_
  ·skip
   refine St.app0 ?_
   refine St.ev _ (Ev.ldbA (.mk rfl) Tryd.underlying77 trivial (by exact sz77)) rfl ?_
   refine St.fact (eqD ((simV xp)) ((simV xp))) (fun _ _ _ => rfl) ?_
   refine St.nil (St.then_normal ?_)
   exact St.bagged _ rfl _ rfl
  refine Hops.cons (Hop.mk (fun e => []) (fun e => []) (fun _ => rfl) (fun _ => rfl) (fun c e hdr2 => ?_)) ?_
  ·skip
   refine St.app0 ?_
   refine St.calld (bound_spec 0 (by unfold i64ok; decide)) cb35 (.cons (.mk rfl) .nil) rfl ?_
   rintro v39 _ rfl
   refine St.app1 ?_
   refine St.nil (St.then_normal ?_)
   exact St.bagged _ rfl _ rfl
  refine Hops.cons (Hop.mk (fun e => [(38, e 14), (39, e 15)]) (fun e => [dat (eqD (e 14) ((simV xp))), dat (isTerm (bd0 0) (e 15))]) (fun _ => rfl) (fun _ => rfl) (fun c e hdr2 => ?_)) ?_
  ·skip
   refine St.app2 ?_
   refine St.eqSlot (P := Tryd.prog) 38 (e 14) ((simV xp)) rfl ?_
   refine St.calld (abs_spec (simV xp) (e 15) (fn0 (.mk [101] []) (.mk [116] [])) (bd0 0)) cb33 (.cons (.mk rfl) (.cons (.mk rfl) .nil)) rfl ?_
   rintro v40 _ rfl
   refine St.app1 ?_
   refine St.nil (St.then_normal ?_)
   exact St.bagged _ rfl _ rfl
  refine Hops.cons (Hop.mk (fun e => []) (fun e => []) (fun _ => rfl) (fun _ => rfl) (fun c e hdr2 => ?_)) ?_
  ·skip
   refine St.app0 ?_
   refine St.ev _ (Ev.ldbA (.mk rfl) Tryd.underlying77 trivial (by exact sz77)) rfl ?_
   refine St.fact (eqD ((simV xr)) ((simV xr))) (fun _ _ _ => rfl) ?_
   refine St.nil (St.then_normal ?_)
   exact St.bagged _ rfl _ rfl
  refine Hops.cons (Hop.mk (fun e => []) (fun e => []) (fun _ => rfl) (fun _ => rfl) (fun c e hdr2 => ?_)) ?_
  ·skip
   refine St.app0 ?_
   refine St.ev _ (Ev.ldbA (.mk rfl) Tryd.underlying77 trivial (by exact sz77)) rfl ?_
   refine St.fact (eqD ((simV xq)) ((simV xq))) (fun _ _ _ => rfl) ?_
   refine St.nil (St.then_normal ?_)
   exact St.bagged _ rfl _ rfl
  refine Hops.cons (Hop.mk (fun e => []) (fun e => []) (fun _ => rfl) (fun _ => rfl) (fun c e hdr2 => ?_)) ?_
  ·skip
   refine St.app0 ?_
   refine St.ev _ (Ev.ldbA (.mk rfl) Tryd.underlying77 trivial (by exact sz77)) rfl ?_
   refine St.fact (eqD ((simV xe)) ((simV xe))) (fun _ _ _ => rfl) ?_
   refine St.nil (St.then_normal ?_)
   exact St.bagged _ rfl _ rfl
  refine Hops.cons (Hop.mk (fun e => []) (fun e => []) (fun _ => rfl) (fun _ => rfl) (fun c e hdr2 => ?_)) ?_
  ·skip
   refine St.app0 ?_
   refine St.calld (bound_spec 1 (by unfold i64ok; decide)) cb35 (.cons (.mk rfl) .nil) rfl ?_
   rintro v44 _ rfl
   refine St.app1 ?_
   refine St.nil (St.then_normal ?_)
   exact St.bagged _ rfl _ rfl
  refine Hops.cons (Hop.mk (fun e => []) (fun e => []) (fun _ => rfl) (fun _ => rfl) (fun c e hdr2 => ?_)) ?_
  ·skip
   refine St.app0 ?_
   refine St.ev _ (Ev.ldbA (.mk rfl) Tryd.underlying77 trivial (by exact sz77)) rfl ?_
   refine St.fact (eqD ((simV xe)) ((simV xe))) (fun _ _ _ => rfl) ?_
   refine St.nil (St.then_normal ?_)
   exact St.bagged _ rfl _ rfl
  refine Hops.cons (Hop.mk (fun e => []) (fun e => []) (fun _ => rfl) (fun _ => rfl) (fun c e hdr2 => ?_)) ?_
  ·skip
   refine St.app0 ?_
   refine St.calld (bound_spec 3 (by unfold i64ok; decide)) cb35 (.cons (.mk rfl) .nil) rfl ?_
   rintro v46 _ rfl
   refine St.app1 ?_
   refine St.nil (St.then_normal ?_)
   exact St.bagged _ rfl _ rfl
  refine Hops.cons (Hop.mk (fun e => []) (fun e => []) (fun _ => rfl) (fun _ => rfl) (fun c e hdr2 => ?_)) ?_
  ·skip
   refine St.app0 ?_
   refine St.calld (bound_spec 1 (by unfold i64ok; decide)) cb35 (.cons (.mk rfl) .nil) rfl ?_
   rintro v47 _ rfl
   refine St.app1 ?_
   refine St.nil (St.then_normal ?_)
   exact St.bagged _ rfl _ rfl
  refine Hops.cons (Hop.mk (fun e => [(46, e 22), (47, e 23)]) (fun e => [dat (isTerm (bd0 3) (e 22)), dat (isTerm (bd0 1) (e 23))]) (fun _ => rfl) (fun _ => rfl) (fun c e hdr2 => ?_)) ?_
  ·skip
   refine St.app2 ?_
   refine St.calld (app_spec (e 22) (e 23) (bd0 3) (bd0 1)) cb34 (.cons (.mk rfl) (.cons (.mk rfl) .nil)) rfl ?_
   rintro v48 _ rfl
   refine St.app1 ?_
   refine St.nil (St.then_normal ?_)
   exact St.bagged _ rfl _ rfl
  refine Hops.cons (Hop.mk (fun e => []) (fun e => []) (fun _ => rfl) (fun _ => rfl) (fun c e hdr2 => ?_)) ?_
  ·skip
   refine St.app0 ?_
   refine St.calld (bound_spec 0 (by unfold i64ok; decide)) cb35 (.cons (.mk rfl) .nil) rfl ?_
   rintro v49 _ rfl
   refine St.app1 ?_
   refine St.nil (St.then_normal ?_)
   exact St.bagged _ rfl _ rfl
  refine Hops.cons (Hop.mk (fun e => [(48, e 24), (49, e 25)]) (fun e => [dat (isTerm (app0 (bd0 3) (bd0 1)) (e 24)), dat (isTerm (bd0 0) (e 25))]) (fun _ => rfl) (fun _ => rfl) (fun c e hdr2 => ?_)) ?_
  ·skip
   refine St.app2 ?_
   refine St.calld (app_spec (e 24) (e 25) (app0 (bd0 3) (bd0 1)) (bd0 0)) cb34 (.cons (.mk rfl) (.cons (.mk rfl) .nil)) rfl ?_
   rintro v50 _ rfl
   refine St.app1 ?_
   refine St.nil (St.then_normal ?_)
   exact St.bagged _ rfl _ rfl
  refine Hops.cons (Hop.mk (fun e => [(45, e 21), (50, e 26)]) (fun e => [dat (eqD (e 21) ((simV xe))), dat (isTerm (app0 (app0 (bd0 3) (bd0 1)) (bd0 0)) (e 26))]) (fun _ => rfl) (fun _ => rfl) (fun c e hdr2 => ?_)) ?_
  ·skip
   refine St.app2 ?_
   refine St.eqSlot (P := Tryd.prog) 45 (e 21) ((simV xe)) rfl ?_
   refine St.calld (abs_spec (simV xe) (e 26) (.mk [101] []) (app0 (app0 (bd0 3) (bd0 1)) (bd0 0))) cb33 (.cons (.mk rfl) (.cons (.mk rfl) .nil)) rfl ?_
   rintro v51 _ rfl
   refine St.app1 ?_
   refine St.nil (St.then_normal ?_)
   exact St.bagged _ rfl _ rfl
  refine Hops.cons (Hop.mk (fun e => [(44, e 20), (51, e 27)]) (fun e => [dat (isTerm (bd0 1) (e 20)), dat (isTerm (abs0 (.mk [101] []) (app0 (app0 (bd0 3) (bd0 1)) (bd0 0))) (e 27))]) (fun _ => rfl) (fun _ => rfl) (fun c e hdr2 => ?_)) ?_
  ·skip
   refine St.app2 ?_
   refine St.calld (app_spec (e 20) (e 27) (bd0 1) (abs0 (.mk [101] []) (app0 (app0 (bd0 3) (bd0 1)) (bd0 0)))) cb34 (.cons (.mk rfl) (.cons (.mk rfl) .nil)) rfl ?_
   rintro v52 _ rfl
   refine St.app1 ?_
   refine St.nil (St.then_normal ?_)
   exact St.bagged _ rfl _ rfl
  refine Hops.cons (Hop.mk (fun e => [(43, e 19), (52, e 28)]) (fun e => [dat (eqD (e 19) ((simV xe))), dat (isTerm (app0 (bd0 1) (abs0 (.mk [101] []) (app0 (app0 (bd0 3) (bd0 1)) (bd0 0)))) (e 28))]) (fun _ => rfl) (fun _ => rfl) (fun c e hdr2 => ?_)) ?_
  ·skip
   refine St.app2 ?_
   refine St.eqSlot (P := Tryd.prog) 43 (e 19) ((simV xe)) rfl ?_
   refine St.calld (abs_spec (simV xe) (e 28) (.mk [101] []) (app0 (bd0 1) (abs0 (.mk [101] []) (app0 (app0 (bd0 3) (bd0 1)) (bd0 0))))) cb33 (.cons (.mk rfl) (.cons (.mk rfl) .nil)) rfl ?_
   rintro v53 _ rfl
   refine St.app1 ?_
   refine St.nil (St.then_normal ?_)
   exact St.bagged _ rfl _ rfl
  refine Hops.cons (Hop.mk (fun e => [(42, e 18), (53, e 29)]) (fun e => [dat (eqD (e 18) ((simV xq))), dat (isTerm (abs0 (.mk [101] []) (app0 (bd0 1) (abs0 (.mk [101] []) (app0 (app0 (bd0 3) (bd0 1)) (bd0 0))))) (e 29))]) (fun _ => rfl) (fun _ => rfl) (fun c e hdr2 => ?_)) ?_
  ·skip
   refine St.app2 ?_
   refine St.eqSlot (P := Tryd.prog) 42 (e 18) ((simV xq)) rfl ?_
   refine St.calld (abs_spec (simV xq) (e 29) (fn0 (fn0 (.mk [101] []) (.mk [116] [])) (.mk [116] [])) (abs0 (.mk [101] []) (app0 (bd0 1) (abs0 (.mk [101] []) (app0 (app0 (bd0 3) (bd0 1)) (bd0 0)))))) cb33 (.cons (.mk rfl) (.cons (.mk rfl) .nil)) rfl ?_
   rintro v54 _ rfl
   refine St.app1 ?_
   refine St.nil (St.then_normal ?_)
   exact St.bagged _ rfl _ rfl
  refine Hops.cons (Hop.mk (fun e => [(41, e 17), (54, e 30)]) (fun e => [dat (eqD (e 17) ((simV xr))), dat (isTerm (abs0 (fn0 (fn0 (.mk [101] []) (.mk [116] [])) (.mk [116] [])) (abs0 (.mk [101] []) (app0 (bd0 1) (abs0 (.mk [101] []) (app0 (app0 (bd0 3) (bd0 1)) (bd0 0)))))) (e 30))]) (fun _ => rfl) (fun _ => rfl) (fun c e hdr2 => ?_)) ?_
  ·skip
   refine St.app2 ?_
   refine St.eqSlot (P := Tryd.prog) 41 (e 17) ((simV xr)) rfl ?_
   refine St.calld (abs_spec (simV xr) (e 30) (fn0 (.mk [101] []) (fn0 (.mk [101] []) (.mk [116] []))) (abs0 (fn0 (fn0 (.mk [101] []) (.mk [116] [])) (.mk [116] [])) (abs0 (.mk [101] []) (app0 (bd0 1) (abs0 (.mk [101] []) (app0 (app0 (bd0 3) (bd0 1)) (bd0 0))))))) cb33 (.cons (.mk rfl) (.cons (.mk rfl) .nil)) rfl ?_
   rintro v55 _ rfl
   refine St.app1 ?_
   refine St.nil (St.then_normal ?_)
   exact St.bagged _ rfl _ rfl
  refine Hops.cons (Hop.mk (fun e => []) (fun e => []) (fun _ => rfl) (fun _ => rfl) (fun c e hdr2 => ?_)) ?_
  ·skip
   refine St.app0 ?_
   refine St.ev _ (Ev.ldbA (.mk rfl) Tryd.underlying77 trivial (by exact sz77)) rfl ?_
   refine St.fact (eqD ((simV xt)) ((simV xt))) (fun _ _ _ => rfl) ?_
   refine St.nil (St.then_normal ?_)
   exact St.bagged _ rfl _ rfl
  refine Hops.cons (Hop.mk (fun e => []) (fun e => []) (fun _ => rfl) (fun _ => rfl) (fun c e hdr2 => ?_)) ?_
  ·skip
   refine St.app0 ?_
   refine St.ev _ (Ev.ldbA (.mk rfl) Tryd.underlying77 trivial (by exact sz77)) rfl ?_
   refine St.fact (eqD ((simV xt)) ((simV xt))) (fun _ _ _ => rfl) ?_
   refine St.nil (St.then_normal ?_)
   exact St.bagged _ rfl _ rfl
  refine Hops.cons (Hop.mk (fun e => [(56, e 32), (57, e 33)]) (fun e => [dat (eqD (e 32) ((simV xt))), dat (eqD (e 33) ((simV xt)))]) (fun _ => rfl) (fun _ => rfl) (fun c e hdr2 => ?_)) ?_
  ·skip
   refine St.app2 ?_
   refine St.eqSlot (P := Tryd.prog) 56 (e 32) ((simV xt)) rfl ?_
   refine St.eqSlot (P := Tryd.prog) 57 (e 33) ((simV xt)) rfl ?_
   refine St.calld (fun_spec (simV xt) (simV xt) (.mk [116] []) (.mk [116] [])) cb26 (.cons (.mk rfl) (.cons (.mk rfl) .nil)) rfl ?_
   rintro v58 _ rfl
   refine St.app1 ?_
   refine St.nil (St.then_normal ?_)
   exact St.bagged _ rfl _ rfl
  refine Hops.cons (Hop.mk (fun e => []) (fun e => []) (fun _ => rfl) (fun _ => rfl) (fun c e hdr2 => ?_)) ?_
  ·skip
   refine St.app0 ?_
   refine St.ev _ (Ev.ldbA (.mk rfl) Tryd.underlying77 trivial (by exact sz77)) rfl ?_
   refine St.fact (eqD ((simV xp)) ((simV xp))) (fun _ _ _ => rfl) ?_
   refine St.nil (St.then_normal ?_)
   exact St.bagged _ rfl _ rfl
  refine Hops.cons (Hop.mk (fun e => []) (fun e => []) (fun _ => rfl) (fun _ => rfl) (fun c e hdr2 => ?_)) ?_
  ·skip
   refine St.app0 ?_
   refine St.ev _ (Ev.ldbA (.mk rfl) Tryd.underlying77 trivial (by exact sz77)) rfl ?_
   refine St.fact (eqD ((simV xe)) ((simV xe))) (fun _ _ _ => rfl) ?_
   refine St.nil (St.then_normal ?_)
   exact St.bagged _ rfl _ rfl
  refine Hops.cons (Hop.mk (fun e => []) (fun e => []) (fun _ => rfl) (fun _ => rfl) (fun c e hdr2 => ?_)) ?_
  ·skip
   refine St.app0 ?_
   refine St.calld (bound_spec 2 (by unfold i64ok; decide)) cb35 (.cons (.mk rfl) .nil) rfl ?_
   rintro v61 _ rfl
   refine St.app1 ?_
   refine St.nil (St.then_normal ?_)
   exact St.bagged _ rfl _ rfl
  refine Hops.cons (Hop.mk (fun e => []) (fun e => []) (fun _ => rfl) (fun _ => rfl) (fun c e hdr2 => ?_)) ?_
  ·skip
   refine St.app0 ?_
   refine St.calld (bound_spec 1 (by unfold i64ok; decide)) cb35 (.cons (.mk rfl) .nil) rfl ?_
   rintro v62 _ rfl
   refine St.app1 ?_
   refine St.nil (St.then_normal ?_)
   exact St.bagged _ rfl _ rfl
  refine Hops.cons (Hop.mk (fun e => []) (fun e => []) (fun _ => rfl) (fun _ => rfl) (fun c e hdr2 => ?_)) ?_
  ·skip
   refine St.app0 ?_
   refine St.calld (bound_spec 0 (by unfold i64ok; decide)) cb35 (.cons (.mk rfl) .nil) rfl ?_
   rintro v63 _ rfl
   refine St.app1 ?_
   refine St.nil (St.then_normal ?_)
   exact St.bagged _ rfl _ rfl
  refine Hops.cons (Hop.mk (fun e => [(62, e 38), (63, e 39)]) (fun e => [dat (isTerm (bd0 1) (e 38)), dat (isTerm (bd0 0) (e 39))]) (fun _ => rfl) (fun _ => rfl) (fun c e hdr2 => ?_)) ?_
  ·skip
   refine St.app2 ?_
   refine St.calld (app_spec (e 38) (e 39) (bd0 1) (bd0 0)) cb34 (.cons (.mk rfl) (.cons (.mk rfl) .nil)) rfl ?_
   rintro v64 _ rfl
   refine St.app1 ?_
   refine St.nil (St.then_normal ?_)
   exact St.bagged _ rfl _ rfl
  refine Hops.cons (Hop.mk (fun e => [(61, e 37), (64, e 40)]) (fun e => [dat (isTerm (bd0 2) (e 37)), dat (isTerm (app0 (bd0 1) (bd0 0)) (e 40))]) (fun _ => rfl) (fun _ => rfl) (fun c e hdr2 => ?_)) ?_
  ·skip
   refine St.app2 ?_
   refine St.calld (app_spec (e 37) (e 40) (bd0 2) (app0 (bd0 1) (bd0 0))) cb34 (.cons (.mk rfl) (.cons (.mk rfl) .nil)) rfl ?_
   rintro v65 _ rfl
   refine St.app1 ?_
   refine St.nil (St.then_normal ?_)
   exact St.bagged _ rfl _ rfl
  refine Hops.cons (Hop.mk (fun e => [(60, e 36), (65, e 41)]) (fun e => [dat (eqD (e 36) ((simV xe))), dat (isTerm (app0 (bd0 2) (app0 (bd0 1) (bd0 0))) (e 41))]) (fun _ => rfl) (fun _ => rfl) (fun c e hdr2 => ?_)) ?_
  ·skip
   refine St.app2 ?_
   refine St.eqSlot (P := Tryd.prog) 60 (e 36) ((simV xe)) rfl ?_
   refine St.calld (abs_spec (simV xe) (e 41) (.mk [101] []) (app0 (bd0 2) (app0 (bd0 1) (bd0 0)))) cb33 (.cons (.mk rfl) (.cons (.mk rfl) .nil)) rfl ?_
   rintro v66 _ rfl
   refine St.app1 ?_
   refine St.nil (St.then_normal ?_)
   exact St.bagged _ rfl _ rfl
  refine Hops.cons (Hop.mk (fun e => [(59, e 35), (66, e 42)]) (fun e => [dat (eqD (e 35) ((simV xp))), dat (isTerm (abs0 (.mk [101] []) (app0 (bd0 2) (app0 (bd0 1) (bd0 0)))) (e 42))]) (fun _ => rfl) (fun _ => rfl) (fun c e hdr2 => ?_)) ?_
  ·skip
   refine St.app2 ?_
   refine St.eqSlot (P := Tryd.prog) 59 (e 35) ((simV xp)) rfl ?_
   refine St.calld (abs_spec (simV xp) (e 42) (fn0 (.mk [101] []) (.mk [116] [])) (abs0 (.mk [101] []) (app0 (bd0 2) (app0 (bd0 1) (bd0 0))))) cb33 (.cons (.mk rfl) (.cons (.mk rfl) .nil)) rfl ?_
   rintro v67 _ rfl
   refine St.app1 ?_
   refine St.nil (St.then_normal ?_)
   exact St.bagged _ rfl _ rfl
  refine Hops.cons (Hop.mk (fun e => [(58, e 34), (67, e 43)]) (fun e => [dat (isSim (fn0 (.mk [116] []) (.mk [116] [])) (e 34)), dat (isTerm (abs0 (fn0 (.mk [101] []) (.mk [116] [])) (abs0 (.mk [101] []) (app0 (bd0 2) (app0 (bd0 1) (bd0 0))))) (e 43))]) (fun _ => rfl) (fun _ => rfl) (fun c e hdr2 => ?_)) ?_
  ·skip
   refine St.app2 ?_
   refine St.calld (abs_spec (e 34) (e 43) (fn0 (.mk [116] []) (.mk [116] [])) (abs0 (fn0 (.mk [101] []) (.mk [116] [])) (abs0 (.mk [101] []) (app0 (bd0 2) (app0 (bd0 1) (bd0 0)))))) cb33 (.cons (.mk rfl) (.cons (.mk rfl) .nil)) rfl ?_
   rintro v68 _ rfl
   refine St.app1 ?_
   refine St.nil (St.then_normal ?_)
   exact St.bagged _ rfl _ rfl
  refine Hops.cons (Hop.mk (fun e => []) (fun e => []) (fun _ => rfl) (fun _ => rfl) (fun c e hdr2 => ?_)) ?_
  ·skip
   refine St.app0 ?_
   refine St.ev _ (Ev.ldbA (.mk rfl) Tryd.underlying77 trivial (by exact sz77)) rfl ?_
   refine St.fact (eqD ((simV xq)) ((simV xq))) (fun _ _ _ => rfl) ?_
   refine St.nil (St.then_normal ?_)
   exact St.bagged _ rfl _ rfl
  refine Hops.cons (Hop.mk (fun e => []) (fun e => []) (fun _ => rfl) (fun _ => rfl) (fun c e hdr2 => ?_)) ?_
  ·skip
   refine St.app0 ?_
   refine St.ev _ (Ev.ldbA (.mk rfl) Tryd.underlying77 trivial (by exact sz77)) rfl ?_
   refine St.fact (eqD ((simV xt)) ((simV xt))) (fun _ _ _ => rfl) ?_
   refine St.nil (St.then_normal ?_)
   exact St.bagged _ rfl _ rfl
  refine Hops.cons (Hop.mk (fun e => []) (fun e => []) (fun _ => rfl) (fun _ => rfl) (fun c e hdr2 => ?_)) ?_
  ·skip
   refine St.app0 ?_
   refine St.ev _ (Ev.ldbA (.mk rfl) Tryd.underlying77 trivial (by exact sz77)) rfl ?_
   refine St.fact (eqD ((simV xt)) ((simV xt))) (fun _ _ _ => rfl) ?_
   refine St.nil (St.then_normal ?_)
   exact St.bagged _ rfl _ rfl
  refine Hops.cons (Hop.mk (fun e => []) (fun e => []) (fun _ => rfl) (fun _ => rfl) (fun c e hdr2 => ?_)) ?_
  ·skip
   refine St.app0 ?_
   refine St.ev _ (Ev.ldbA (.mk rfl) Tryd.underlying77 trivial (by exact sz77)) rfl ?_
   refine St.fact (eqD ((simV xt)) ((simV xt))) (fun _ _ _ => rfl) ?_
   refine St.nil (St.then_normal ?_)
   exact St.bagged _ rfl _ rfl
  refine Hops.cons (Hop.mk (fun e => [(71, e 47), (72, e 48)]) (fun e => [dat (eqD (e 47) ((simV xt))), dat (eqD (e 48) ((simV xt)))]) (fun _ => rfl) (fun _ => rfl) (fun c e hdr2 => ?_)) ?_
  ·skip
   refine St.app2 ?_
   refine St.eqSlot (P := Tryd.prog) 71 (e 47) ((simV xt)) rfl ?_
   refine St.eqSlot (P := Tryd.prog) 72 (e 48) ((simV xt)) rfl ?_
   refine St.calld (fun_spec (simV xt) (simV xt) (.mk [116] []) (.mk [116] [])) cb26 (.cons (.mk rfl) (.cons (.mk rfl) .nil)) rfl ?_
   rintro v73 _ rfl
   refine St.app1 ?_
   refine St.nil (St.then_normal ?_)
   exact St.bagged _ rfl _ rfl
  refine Hops.cons (Hop.mk (fun e => [(70, e 46), (73, e 49)]) (fun e => [dat (eqD (e 46) ((simV xt))), dat (isSim (fn0 (.mk [116] []) (.mk [116] [])) (e 49))]) (fun _ => rfl) (fun _ => rfl) (fun c e hdr2 => ?_)) ?_
  ·skip
   refine St.app2 ?_
   refine St.eqSlot (P := Tryd.prog) 70 (e 46) ((simV xt)) rfl ?_
   refine St.calld (fun_spec (simV xt) (e 49) (.mk [116] []) (fn0 (.mk [116] []) (.mk [116] []))) cb26 (.cons (.mk rfl) (.cons (.mk rfl) .nil)) rfl ?_
   rintro v74 _ rfl
   refine St.app1 ?_
   refine St.nil (St.then_normal ?_)
   exact St.bagged _ rfl _ rfl
  refine Hops.cons (Hop.mk (fun e => []) (fun e => []) (fun _ => rfl) (fun _ => rfl) (fun c e hdr2 => ?_)) ?_
  ·skip
   refine St.app0 ?_
   refine St.ev _ (Ev.ldbA (.mk rfl) Tryd.underlying77 trivial (by exact sz77)) rfl ?_
   refine St.fact (eqD ((simV xq)) ((simV xq))) (fun _ _ _ => rfl) ?_
   refine St.nil (St.then_normal ?_)
   exact St.bagged _ rfl _ rfl
  refine Hops.cons (Hop.mk (fun e => []) (fun e => []) (fun _ => rfl) (fun _ => rfl) (fun c e hdr2 => ?_)) ?_
  ·skip
   refine St.app0 ?_
   refine St.ev _ (Ev.ldbA (.mk rfl) Tryd.underlying77 trivial (by exact sz77)) rfl ?_
   refine St.fact (eqD ((simV xp)) ((simV xp))) (fun _ _ _ => rfl) ?_
   refine St.nil (St.then_normal ?_)
   exact St.bagged _ rfl _ rfl
  refine Hops.cons (Hop.mk (fun e => []) (fun e => []) (fun _ => rfl) (fun _ => rfl) (fun c e hdr2 => ?_)) ?_
  ·skip
   refine St.app0 ?_
   refine St.calld (bound_spec 2 (by unfold i64ok; decide)) cb35 (.cons (.mk rfl) .nil) rfl ?_
   rintro v77 _ rfl
   refine St.app1 ?_
   refine St.nil (St.then_normal ?_)
   exact St.bagged _ rfl _ rfl
  refine Hops.cons (Hop.mk (fun e => []) (fun e => []) (fun _ => rfl) (fun _ => rfl) (fun c e hdr2 => ?_)) ?_
  ·skip
   refine St.app0 ?_
   refine St.calld (bound_spec 3 (by unfold i64ok; decide)) cb35 (.cons (.mk rfl) .nil) rfl ?_
   rintro v78 _ rfl
   refine St.app1 ?_
   refine St.nil (St.then_normal ?_)
   exact St.bagged _ rfl _ rfl
  refine Hops.cons (Hop.mk (fun e => []) (fun e => []) (fun _ => rfl) (fun _ => rfl) (fun c e hdr2 => ?_)) ?_
  ·skip
   refine St.app0 ?_
   refine St.calld (bound_spec 0 (by unfold i64ok; decide)) cb35 (.cons (.mk rfl) .nil) rfl ?_
   rintro v79 _ rfl
   refine St.app1 ?_
   refine St.nil (St.then_normal ?_)
   exact St.bagged _ rfl _ rfl
  refine Hops.cons (Hop.mk (fun e => [(78, e 54), (79, e 55)]) (fun e => [dat (isTerm (bd0 3) (e 54)), dat (isTerm (bd0 0) (e 55))]) (fun _ => rfl) (fun _ => rfl) (fun c e hdr2 => ?_)) ?_
  ·skip
   refine St.app2 ?_
   refine St.calld (app_spec (e 54) (e 55) (bd0 3) (bd0 0)) cb34 (.cons (.mk rfl) (.cons (.mk rfl) .nil)) rfl ?_
   rintro v80 _ rfl
   refine St.app1 ?_
   refine St.nil (St.then_normal ?_)
   exact St.bagged _ rfl _ rfl
  refine Hops.cons (Hop.mk (fun e => [(77, e 53), (80, e 56)]) (fun e => [dat (isTerm (bd0 2) (e 53)), dat (isTerm (app0 (bd0 3) (bd0 0)) (e 56))]) (fun _ => rfl) (fun _ => rfl) (fun c e hdr2 => ?_)) ?_
  ·skip
   refine St.app2 ?_
   refine St.calld (app_spec (e 53) (e 56) (bd0 2) (app0 (bd0 3) (bd0 0))) cb34 (.cons (.mk rfl) (.cons (.mk rfl) .nil)) rfl ?_
   rintro v81 _ rfl
   refine St.app1 ?_
   refine St.nil (St.then_normal ?_)
   exact St.bagged _ rfl _ rfl
  refine Hops.cons (Hop.mk (fun e => []) (fun e => []) (fun _ => rfl) (fun _ => rfl) (fun c e hdr2 => ?_)) ?_
  ·skip
   refine St.app0 ?_
   refine St.calld (bound_spec 1 (by unfold i64ok; decide)) cb35 (.cons (.mk rfl) .nil) rfl ?_
   rintro v82 _ rfl
   refine St.app1 ?_
   refine St.nil (St.then_normal ?_)
   exact St.bagged _ rfl _ rfl
  refine Hops.cons (Hop.mk (fun e => []) (fun e => []) (fun _ => rfl) (fun _ => rfl) (fun c e hdr2 => ?_)) ?_
  ·skip
   refine St.app0 ?_
   refine St.calld (bound_spec 0 (by unfold i64ok; decide)) cb35 (.cons (.mk rfl) .nil) rfl ?_
   rintro v83 _ rfl
   refine St.app1 ?_
   refine St.nil (St.then_normal ?_)
   exact St.bagged _ rfl _ rfl
  refine Hops.cons (Hop.mk (fun e => [(82, e 58), (83, e 59)]) (fun e => [dat (isTerm (bd0 1) (e 58)), dat (isTerm (bd0 0) (e 59))]) (fun _ => rfl) (fun _ => rfl) (fun c e hdr2 => ?_)) ?_
  ·skip
   refine St.app2 ?_
   refine St.calld (app_spec (e 58) (e 59) (bd0 1) (bd0 0)) cb34 (.cons (.mk rfl) (.cons (.mk rfl) .nil)) rfl ?_
   rintro v84 _ rfl
   refine St.app1 ?_
   refine St.nil (St.then_normal ?_)
   exact St.bagged _ rfl _ rfl
  refine Hops.cons (Hop.mk (fun e => [(81, e 57), (84, e 60)]) (fun e => [dat (isTerm (app0 (bd0 2) (app0 (bd0 3) (bd0 0))) (e 57)), dat (isTerm (app0 (bd0 1) (bd0 0)) (e 60))]) (fun _ => rfl) (fun _ => rfl) (fun c e hdr2 => ?_)) ?_
  ·skip
   refine St.app2 ?_
   refine St.calld (app_spec (e 57) (e 60) (app0 (bd0 2) (app0 (bd0 3) (bd0 0))) (app0 (bd0 1) (bd0 0))) cb34 (.cons (.mk rfl) (.cons (.mk rfl) .nil)) rfl ?_
   rintro v85 _ rfl
   refine St.app1 ?_
   refine St.nil (St.then_normal ?_)
   exact St.bagged _ rfl _ rfl
  refine Hops.cons (Hop.mk (fun e => [(76, e 52), (85, e 61)]) (fun e => [dat (eqD (e 52) ((simV xp))), dat (isTerm (app0 (app0 (bd0 2) (app0 (bd0 3) (bd0 0))) (app0 (bd0 1) (bd0 0))) (e 61))]) (fun _ => rfl) (fun _ => rfl) (fun c e hdr2 => ?_)) ?_
  ·skip
   refine St.app2 ?_
   refine St.eqSlot (P := Tryd.prog) 76 (e 52) ((simV xp)) rfl ?_
   refine St.calld (abs_spec (simV xp) (e 61) (fn0 (.mk [101] []) (.mk [116] [])) (app0 (app0 (bd0 2) (app0 (bd0 3) (bd0 0))) (app0 (bd0 1) (bd0 0)))) cb33 (.cons (.mk rfl) (.cons (.mk rfl) .nil)) rfl ?_
   rintro v86 _ rfl
   refine St.app1 ?_
   refine St.nil (St.then_normal ?_)
   exact St.bagged _ rfl _ rfl
  refine Hops.cons (Hop.mk (fun e => [(75, e 51), (86, e 62)]) (fun e => [dat (eqD (e 51) ((simV xq))), dat (isTerm (abs0 (fn0 (.mk [101] []) (.mk [116] [])) (app0 (app0 (bd0 2) (app0 (bd0 3) (bd0 0))) (app0 (bd0 1) (bd0 0)))) (e 62))]) (fun _ => rfl) (fun _ => rfl) (fun c e hdr2 => ?_)) ?_
  ·skip
   refine St.app2 ?_
   refine St.eqSlot (P := Tryd.prog) 75 (e 51) ((simV xq)) rfl ?_
   refine St.calld (abs_spec (simV xq) (e 62) (fn0 (fn0 (.mk [101] []) (.mk [116] [])) (.mk [116] [])) (abs0 (fn0 (.mk [101] []) (.mk [116] [])) (app0 (app0 (bd0 2) (app0 (bd0 3) (bd0 0))) (app0 (bd0 1) (bd0 0))))) cb33 (.cons (.mk rfl) (.cons (.mk rfl) .nil)) rfl ?_
   rintro v87 _ rfl
   refine St.app1 ?_
   refine St.nil (St.then_normal ?_)
   exact St.bagged _ rfl _ rfl
  refine Hops.cons (Hop.mk (fun e => [(74, e 50), (87, e 63)]) (fun e => [dat (isSim (fn0 (.mk [116] []) (fn0 (.mk [116] []) (.mk [116] []))) (e 50)), dat (isTerm (abs0 (fn0 (fn0 (.mk [101] []) (.mk [116] [])) (.mk [116] [])) (abs0 (fn0 (.mk [101] []) (.mk [116] [])) (app0 (app0 (bd0 2) (app0 (bd0 3) (bd0 0))) (app0 (bd0 1) (bd0 0))))) (e 63))]) (fun _ => rfl) (fun _ => rfl) (fun c e hdr2 => ?_)) ?_
  ·skip
   refine St.app2 ?_
   refine St.calld (abs_spec (e 50) (e 63) (fn0 (.mk [116] []) (fn0 (.mk [116] []) (.mk [116] []))) (abs0 (fn0 (fn0 (.mk [101] []) (.mk [116] [])) (.mk [116] [])) (abs0 (fn0 (.mk [101] []) (.mk [116] [])) (app0 (app0 (bd0 2) (app0 (bd0 3) (bd0 0))) (app0 (bd0 1) (bd0 0)))))) cb33 (.cons (.mk rfl) (.cons (.mk rfl) .nil)) rfl ?_
   rintro v88 _ rfl
   refine St.app1 ?_
   refine St.nil (St.then_normal ?_)
   exact St.bagged _ rfl _ rfl
  refine Hops.cons (Hop.mk (fun e => [(69, e 45), (88, e 64)]) (fun e => [dat (eqD (e 45) ((simV xq))), dat (isTerm (abs0 (fn0 (.mk [116] []) (fn0 (.mk [116] []) (.mk [116] []))) (abs0 (fn0 (fn0 (.mk [101] []) (.mk [116] [])) (.mk [116] [])) (abs0 (fn0 (.mk [101] []) (.mk [116] [])) (app0 (app0 (bd0 2) (app0 (bd0 3) (bd0 0))) (app0 (bd0 1) (bd0 0)))))) (e 64))]) (fun _ => rfl) (fun _ => rfl) (fun c e hdr2 => ?_)) ?_
  ·skip
   refine St.app2 ?_
   refine St.eqSlot (P := Tryd.prog) 69 (e 45) ((simV xq)) rfl ?_
   refine St.calld (abs_spec (simV xq) (e 64) (fn0 (fn0 (.mk [101] []) (.mk [116] [])) (.mk [116] [])) (abs0 (fn0 (.mk [116] []) (fn0 (.mk [116] []) (.mk [116] []))) (abs0 (fn0 (fn0 (.mk [101] []) (.mk [116] [])) (.mk [116] [])) (abs0 (fn0 (.mk [101] []) (.mk [116] [])) (app0 (app0 (bd0 2) (app0 (bd0 3) (bd0 0))) (app0 (bd0 1) (bd0 0))))))) cb33 (.cons (.mk rfl) (.cons (.mk rfl) .nil)) rfl ?_
   rintro v89 _ rfl
   refine St.app1 ?_
   refine St.nil (St.then_normal ?_)
   exact St.bagged _ rfl _ rfl
  refine Hops.cons (Hop.mk (fun e => [(30, e 6), (37, e 13), (40, e 16), (55, e 31), (68, e 44), (89, e 65)]) (fun e => [dat (isTerm (abs0 (fn0 (fn0 (.mk [101] []) (.mk [116] [])) (.mk [116] [])) (abs0 (fn0 (.mk [101] []) (.mk [116] [])) (app0 (bd0 1) (bd0 0)))) (e 6)), dat (isTerm (abs0 (fn0 (fn0 (.mk [101] []) (.mk [116] [])) (fn0 (fn0 (.mk [101] []) (.mk [116] [])) (.mk [116] []))) (abs0 (fn0 (.mk [101] []) (.mk [116] [])) (app0 (bd0 1) (bd0 0)))) (e 13)), dat (isTerm (abs0 (fn0 (.mk [101] []) (.mk [116] [])) (bd0 0)) (e 16)), dat (isTerm (abs0 (fn0 (.mk [101] []) (fn0 (.mk [101] []) (.mk [116] []))) (abs0 (fn0 (fn0 (.mk [101] []) (.mk [116] [])) (.mk [116] [])) (abs0 (.mk [101] []) (app0 (bd0 1) (abs0 (.mk [101] []) (app0 (app0 (bd0 3) (bd0 1)) (bd0 0))))))) (e 31)), dat (isTerm (abs0 (fn0 (.mk [116] []) (.mk [116] [])) (abs0 (fn0 (.mk [101] []) (.mk [116] [])) (abs0 (.mk [101] []) (app0 (bd0 2) (app0 (bd0 1) (bd0 0)))))) (e 44)), dat (isTerm (abs0 (fn0 (fn0 (.mk [101] []) (.mk [116] [])) (.mk [116] [])) (abs0 (fn0 (.mk [116] []) (fn0 (.mk [116] []) (.mk [116] []))) (abs0 (fn0 (fn0 (.mk [101] []) (.mk [116] [])) (.mk [116] [])) (abs0 (fn0 (.mk [101] []) (.mk [116] [])) (app0 (app0 (bd0 2) (app0 (bd0 3) (bd0 0))) (app0 (bd0 1) (bd0 0))))))) (e 65))]) (fun _ => rfl) (fun _ => rfl) (fun c e hdr2 => ?_)) ?_
  ·skip
   refine St.app6 ?_
   refine St.isTerm (abs0 (fn0 (fn0 (.mk [101] []) (.mk [116] [])) (.mk [116] [])) (abs0 (fn0 (.mk [101] []) (.mk [116] [])) (app0 (bd0 1) (bd0 0)))) (e 6) (fun y30 hy30 => ?_)
   obtain ⟨hy30V, hy30E, hy30w⟩ := hy30
   rw [hy30V]
   refine St.isTerm (abs0 (fn0 (fn0 (.mk [101] []) (.mk [116] [])) (fn0 (fn0 (.mk [101] []) (.mk [116] [])) (.mk [116] []))) (abs0 (fn0 (.mk [101] []) (.mk [116] [])) (app0 (bd0 1) (bd0 0)))) (e 13) (fun y37 hy37 => ?_)
   obtain ⟨hy37V, hy37E, hy37w⟩ := hy37
   rw [hy37V]
   refine St.isTerm (abs0 (fn0 (.mk [101] []) (.mk [116] [])) (bd0 0)) (e 16) (fun y40 hy40 => ?_)
   obtain ⟨hy40V, hy40E, hy40w⟩ := hy40
   rw [hy40V]
   refine St.isTerm (abs0 (fn0 (.mk [101] []) (fn0 (.mk [101] []) (.mk [116] []))) (abs0 (fn0 (fn0 (.mk [101] []) (.mk [116] [])) (.mk [116] [])) (abs0 (.mk [101] []) (app0 (bd0 1) (abs0 (.mk [101] []) (app0 (app0 (bd0 3) (bd0 1)) (bd0 0))))))) (e 31) (fun y55 hy55 => ?_)
   obtain ⟨hy55V, hy55E, hy55w⟩ := hy55
   rw [hy55V]
   refine St.isTerm (abs0 (fn0 (.mk [116] []) (.mk [116] [])) (abs0 (fn0 (.mk [101] []) (.mk [116] [])) (abs0 (.mk [101] []) (app0 (bd0 2) (app0 (bd0 1) (bd0 0)))))) (e 44) (fun y68 hy68 => ?_)
   obtain ⟨hy68V, hy68E, hy68w⟩ := hy68
   rw [hy68V]
   refine St.isTerm (abs0 (fn0 (fn0 (.mk [101] []) (.mk [116] [])) (.mk [116] [])) (abs0 (fn0 (.mk [116] []) (fn0 (.mk [116] []) (.mk [116] []))) (abs0 (fn0 (fn0 (.mk [101] []) (.mk [116] [])) (.mk [116] [])) (abs0 (fn0 (.mk [101] []) (.mk [116] [])) (app0 (app0 (bd0 2) (app0 (bd0 3) (bd0 0))) (app0 (bd0 1) (bd0 0))))))) (e 65) (fun y89 hy89 => ?_)
   obtain ⟨hy89V, hy89E, hy89w⟩ := hy89
   rw [hy89V]
   refine St.bsl rfl (.cons (.mk rfl) (.cons (.mk rfl) (.cons (.mk rfl) (.cons (.mk rfl) (.cons (.mk rfl) (.cons (.mk rfl) .nil)))))) Tryd.underlying78 sz80 zv80 rfl rfl (by simp [Value.cells]) rfl rfl (fun b90 => ?_)
   refine St.publish (.slice (some ⟨b90, 0, none⟩) 6 6) termR [y30, y37, y40, y55, y68, y89] rfl rfl (all_cons hy30w (all_cons hy37w (all_cons hy40w (all_cons hy55w (all_cons hy68w (all_cons hy89w (all_nil))))))) ?_
   refine dall_of termD [y30, y37, y40, y55, y68, y89] [termD y30, termD y37, termD y40, termD y55, termD y68, termD y89] rfl ?_
   refine St.mkD (isTerms meansE (.slice (some ⟨b90, 0, none⟩) 6 6)) [sl termR (.slice (some ⟨b90, 0, none⟩) 6 6) [y30, y37, y40, y55, y68, y89], dall termD [y30, y37, y40, y55, y68, y89]] (fun ρ h => ⟨rfl, [y30, y37, y40, y55, y68, y89], by simp only [List.map_cons, List.map_nil, hy30E, hy37E, hy40E, hy55E, hy68E, hy89E]; rfl, h (sl termR (.slice (some ⟨b90, 0, none⟩) 6 6) [y30, y37, y40, y55, y68, y89]) (by simp), h (dall termD [y30, y37, y40, y55, y68, y89]) (by simp)⟩) ?_
   refine St.nil (St.then_normal ?_)
   exact St.bagged _ rfl _ rfl
  exact Hops.nil
 refine St.app1 ?_
 refine St.asg ?_
 refine St.nil (St.then_normal (St.seq (St.seq (St.rg ?_))))
 refine St.mv ?_
 refine St.nil (St.then_normal ?_)
 refine St.condf _ rfl rfl ?_
 refine St.skip (St.then_normal (St.seq (St.rg ?_)))
 refine St.mv ?_
 refine St.asg ?_
 refine St.nil (St.then_normal (St.rett ?_))
 refine St.rets [_] [dat (isTerms meansE (e 66))] Tryd.results28 ⟨rfl, trivial⟩ ?_ (fun _ hw => hw.sub)
 rfl
end Go.Proofs.YtolmidffiegkaaaDoor

/-
  (YtolmidffiegkaaaDoorStrO)
  Strings in their order, and lists of strings in theirs: plain facts, no program stands here.
  Conditions: none.
-/
namespace Go.J
open Go
end Go.J

/-
  (YtolmidffiegkaaaDoorSufP)
  Plain facts on lists of numbers in their order, and on sorting the ends of a list by beginnings that are twice as long: no program stands here.
  Conditions: none.
-/
namespace Go.J
open Go
def llt : List Int → List Int → Bool
 | [], [] => false
 | [], _ :: _ => true
 | _ :: _, [] => false
 | a :: x, b :: y => decide (a < b) || (decide (a = b) && llt x y)
theorem llt_trans : ∀ {x y z : List Int}, llt x y = true → llt y z = true → llt x z = true
 | [], [], _, h, _ => by simp [llt] at h
 | [], _ :: _, [], _, h => by simp [llt] at h
 | [], _ :: _, _ :: _, _, _ => rfl
 | _ :: _, [], _, h, _ => by simp [llt] at h
 | _ :: _, _ :: _, [], _, h => by simp [llt] at h
 | a :: x, b :: y, c :: z, h, k => by
  simp only [llt, Bool.or_eq_true, Bool.and_eq_true, decide_eq_true_eq] at h k ⊢
  rcases h with h | ⟨h, h'⟩
  ·left; rcases k with k | ⟨k, _⟩ <;> omega
  ·rcases k with k | ⟨k, k'⟩
   ·left; omega
   ·right; exact ⟨by omega, llt_trans h' k'⟩
theorem llt_tri : ∀ (x y : List Int), llt x y = true ∨ x = y ∨ llt y x = true
 | [], [] => .inr (.inl rfl)
 | [], _ :: _ => .inl rfl
 | _ :: _, [] => .inr (.inr rfl)
 | a :: x, b :: y => by
  simp only [llt, Bool.or_eq_true, Bool.and_eq_true, decide_eq_true_eq, List.cons.injEq]
  rcases Int.lt_trichotomy a b with h | h | h
  ·exact .inl (.inl h)
  ·rcases llt_tri x y with k | k | k
   ·exact .inl (.inr ⟨h, k⟩)
   ·exact .inr (.inl ⟨h, k⟩)
   ·exact .inr (.inr (.inr ⟨h.symm, k⟩))
  ·exact .inr (.inr (.inl h))
section
variable (p : List Int)
def pre (L i : Nat) : List Int := (p.drop i).take L
variable {p}
end
section
variable {n : Nat} {key : Nat → List Int} {cf : Nat → Nat → Int} {l : List Nat}
end
section
variable {p : List Int} {L : Nat} {cf : Nat → Nat → Int} {l : List Nat} {rk : List Int}
end
end Go.J

/-
  (YtolmidffiegkaaaDoorSufQ)
  Plain facts on the ends of a list in their order: inserting one after the other, the places of a part: no program stands here.
  Conditions: none.
-/
namespace Go.J
open Go
section
variable {p : List Int}
theorem drop_inj {a b : Nat} (ha : a ≤ p.length) (hb : b ≤ p.length) (h : p.drop a = p.drop b) : a = b := by
 have := congrArg List.length h
 simp only [List.length_drop] at this
 omega
abbrev Sx (p : List Int) (l : List Nat) : Prop := l.Pairwise (fun a b => llt (p.drop a) (p.drop b) = true)
structure InsI (p : List Int) (i : Nat) (A B : List Nat) : Prop where
 perm : (A ++ B).Perm (List.range i)
 srt : Sx p (A ++ B)
 less : ∀ b ∈ B, llt (p.drop i) (p.drop b) = true
theorem InsI.step {i a : Nat} {A B : List Nat} (h : InsI p i (A ++ [a]) B) (hl : llt (p.drop i) (p.drop a) = true) : InsI p i A (a :: B) :=
 ⟨by simpa using h.perm, by simpa using h.srt, fun b hb => by rcases List.mem_cons.1 hb with rfl | hb; exact hl; exact h.less b hb⟩
theorem InsI.done {i : Nat} {A B : List Nat} (h : InsI p i A B) (hi : i < p.length) (hl : A = [] ∨ ∃ A' a, A = A' ++ [a] ∧ llt (p.drop i) (p.drop a) = false) : (A ++ i :: B).Perm (List.range (i + 1)) ∧ Sx p (A ++ i :: B) := by
 have hmem : ∀ x ∈ A ++ B, x < i := fun x hx => List.mem_range.1 (h.perm.mem_iff.1 hx)
 constructor
 ·rw [List.range_succ]
  exact List.perm_middle.trans ((h.perm.cons i).trans (List.perm_append_singleton i _).symm)
 ·have hs := List.pairwise_append.1 h.srt
  have hA : ∀ x ∈ A, llt (p.drop x) (p.drop i) = true := by
   rcases hl with rfl | ⟨A', a, rfl, hla⟩
   ·intro x hx; cases hx
   ·have last : llt (p.drop a) (p.drop i) = true := by
     have hai := hmem a (by simp)
     rcases llt_tri (p.drop a) (p.drop i) with q | q | q
     ·exact q
     ·have := drop_inj (by omega) (by omega) q; omega
     ·rw [hla] at q; cases q
    intro x hx
    rcases List.mem_append.1 hx with hx | hx
    ·exact llt_trans ((List.pairwise_append.1 hs.1).2.2 x hx a (List.mem_singleton_self _)) last
    ·rw [List.mem_singleton.1 hx]; exact last
  refine List.pairwise_append.2 ⟨hs.1, List.pairwise_cons.2 ⟨h.less, hs.2.1⟩, ?_⟩
  intro x hx y hy
  rcases List.mem_cons.1 hy with rfl | hy
  ·exact hA x hx
  ·exact hs.2.2 x hx y hy
end
section
variable {n : Nat} {cf : Nat → Nat → Int} {l : List Nat}
end
end Go.J

/-
  (YtolmidffiegkaaaDoorSufR)
  Plain facts on the ends of a list in their order: there is one such row; comparing lists; a search; swapping neighbours: no program stands here.
  Conditions: none.
-/
namespace Go.J
open Go
end Go.J

/-
  (YtolmidffiegkaaaDoorConP)
  Sentences and where words follow one another in them: plain facts, no program stands here.
  Conditions: none.
-/
namespace Go.J
open Go
structure Corp (l : List (List Str)) : Prop where
 len : l.length ≤ 100
 each : ∀ s ∈ l, 0 < s.length ∧ s.length ≤ 12 ∧ s.all isWord = true
theorem Corp.nil : Corp [] := ⟨by simp, fun s h => by cases h⟩
def hz {β : Type} (q : List Nat) : List Nat → List β → List β
 | x :: pts, z :: zs => if (x :: pts).take q.length = q then z :: hz q pts zs else hz q pts zs
 | _, _ => []
end Go.J

/-
  (YtolmidffiegkaaaDoorQ4)
  The walks of what makes graphs and hierarchies.
  Conditions: none beyond the sizes.
-/
set_option maxRecDepth 20000
set_option linter.unusedSimpArgs false
set_option linter.unusedVariables false
namespace Go.Proofs.YtolmidffiegkaaaDoor
open Go Go.J
def lkPairs : List Int → List LinkD
 | a :: b :: r => ⟨a, b⟩ :: lkPairs r
 | _ => []
theorem lkPairs_len : ∀ xs : List Int, (lkPairs xs).length = xs.length / 2
 | [] => rfl
 | [_] => by simp [lkPairs]
 | a :: b :: r => by rw [lkPairs, List.length_cons, lkPairs_len r]; simp only [List.length_cons]; omega
theorem lkPairs_get : ∀ {xs : List Int} {j : Nat} {a b : Int}, xs[2 * j]? = some a → xs[2 * j + 1]? = some b → (lkPairs xs)[j]? = some ⟨a, b⟩
 | [], _, _, _, h, _ => by simp at h
 | [_], 0, _, _, _, h => by simp at h
 | [_], j + 1, _, _, h, _ => by simp at h
 | x :: y :: r, 0, a, b, h, k => by
  simp at h k; subst h k; rfl
 | x :: y :: r, j + 1, a, b, h, k => by
  rw [show 2 * (j + 1) = (2 * j) + 1 + 1 by omega, List.getElem?_cons_succ, List.getElem?_cons_succ] at h
  rw [show 2 * (j + 1) + 1 = (2 * j + 1) + 1 + 1 by omega, List.getElem?_cons_succ, List.getElem?_cons_succ] at k
  rw [lkPairs, List.getElem?_cons_succ]
  exact lkPairs_get h k
theorem lkPairs_mem : ∀ {xs : List Int} {x : LinkD}, x ∈ lkPairs xs → x.feat ∈ xs ∧ x.to ∈ xs
 | [], _, h => by cases h
 | [_], _, h => by cases h
 | a :: b :: r, x, h => by
  rw [lkPairs] at h
  rcases List.mem_cons.1 h with rfl | h
  ·exact ⟨by simp, by simp⟩
  ·have := lkPairs_mem h
   exact ⟨by simp [this.1], by simp [this.2]⟩
def row0 (xs : List Int) : Nd0 := (xs.headD 0, (lkPairs xs.tail).map lkE)
def graph0 (xss : List (List Int)) : Gr0 := xss.map row0
theorem rowLk_snoc {X Y : List LinkD} {x : LinkD} (h : Y = X ++ [x]) : rows linkR X ++ [iv x.feat, iv x.to] = rows linkR Y := by rw [h, rows_snoc]; rfl
theorem rowNd_snoc {X : List NodeD} {x : NodeD} : rows nodeR X ++ [iv x.type, x.lv.1] = rows nodeR (X ++ [x]) := by rw [rows_snoc]; rfl
theorem row0_tail {xs : List Int} {x : Int} (h : xs[0]? = some x) : row0 xs = (x, (lkPairs (xs.drop 1)).map lkE) := by
 cases xs with
 | nil => simp at h
 | cons y r => simp at h; subst h; rfl
theorem drop_at {xs : List Int} {j : Nat} : (xs.drop 1)[j]? = xs[1 + j]? := by rw [List.getElem?_drop]
set_option maxHeartbeats 4000000 in
theorem graphOf_spec (u : Value) (xss : List (List Int)) (hne : xss.all (fun xs => decide (0 < xs.length) && decide (xs.length ≤ 60)) = true) (hl : xss.length ≤ 60) : FnH Tryd.prog 29 #[u] ([isNsl intR xss u].map dat) (fun v H' => H' = [dat (isGraph (graph0 xss) v)]) := by
 refine FnH.body (args := [u]) 48 Tryd.func29 rfl Tryd.ntmps29 rfl (fun c => ?_)
 refine St.cast (H' := [dat (isNsl intR xss u)]) rfl ?_
 refine St.seq ?_
 refine St.isNsl intR xss u (fun hu1 => ?_)
 refine St.openNs u (fun vs hvs => ?_)
 refine St.ptwWf vs hvs (fun hwf => ?_)
 refine St.rg ?_
 refine St.alloc zc30 rfl (fun b2 => ?_)
 refine St.nil (St.then_normal (St.seq (St.rg ?_)))
 refine St.alloc zc30 rfl (fun b3 => ?_)
 refine St.nil (St.then_normal (St.seq (St.seq (St.rg ?_))))
 refine St.mv ?_
 refine St.ev _ (Ev.lensl (.mk rfl) Tryd.underlying40) rfl ?_
 refine St.mv ?_
 refine St.nil (St.then_normal (St.block ?_))
 refine St.nilrow 116 2 ?_
 refine St.rowEqN (.slice none 0 0) (show _ = ([] : List NodeD).length from rfl) (show _ = rows nodeR [] from rfl) ?_
 refine St.dallNil nodeD ?_
 refine St.loopH2 (ι := Nat) (κ := Value × List NodeD) (fun k z T => (10, iv k) :: T) (fun k z => [blk b3 (.cells [z.1].toArray 30 (0, 0)), row z.1 116 2 (z.2).length (rows nodeR (z.2)), dat (dall nodeD z.2), blk b2 (.cells [(.slice none 0 0)].toArray 30 (0, 0)), dat (sl valR u vs), dat (ptw intR vs xss)]) (fun k z => k ≤ xss.length ∧ z.1.oneCell' = true ∧ z.2.map ndE = graph0 (xss.take k) ∧ ∀ x ∈ z.2, nodeR.wf x) (fun k z => xss.length - k) 0 ((.slice none 0 0), []) (Keep.cons 2 rfl (Keep.cons 3 rfl (Keep.cons 8 rfl (Keep.cons 9 rfl Keep.nil)))) ⟨Nat.zero_le _, rfl, rfl, fun x hx => by cases hx⟩ (by repeat (first | exact Sub.nil | refine Sub.cons (by first | rfl | exact congrArg (fun z => some (iv z)) (by first | omega | (dsimp only; omega)) | exact congrArg (fun z => some (Value.bool z)) (by first | assumption | exact Eq.symm (by assumption))) ?_)) (fun _ hw => hw.sub) ?_
 rintro k ⟨vz, X⟩ ⟨hk, hz, hX, hXw⟩
 dsimp only at hz hX hXw ⊢
 have hXl := congrArg List.length hX
 rw [List.length_map, graph0, List.length_map, List.length_take] at hXl
 refine St.seq (St.rg ?_)
 refine St.ev _ (Ev.lss (.mk rfl) (.mk rfl)) rfl ?_
 refine St.nil (St.then_normal (St.seq ?_))
 refine St.cond _ rfl (fun h11 => ?_) (fun h11 => ?_)
 ·skip
  try simp only [jbAll] at h11
  obtain ⟨s, hs⟩ := some_of_lt (show k < xss.length by omega)
  obtain ⟨w, hw⟩ := some_of_lt (show k < vs.length by omega)
  refine St.ptw (vs := vs) k hw hs ?_
  have hsw := hwf s (List.mem_of_getElem? hs)
  have hsn := List.all_eq_true.1 hne s (List.mem_of_getElem? hs)
  simp only [Bool.and_eq_true, decide_eq_true_eq] at hsn
  obtain ⟨x0, hx0⟩ := some_of_lt (show 0 < s.length by omega)
  have hpl := lkPairs_len (s.drop 1)
  rw [List.length_drop] at hpl
  refine St.skip (St.then_normal (St.seq (St.block (St.seq (St.rg ?_)))))
  refine St.ev _ (Ev.idxaddr (k := k) (.mk rfl) (.mk rfl) Tryd.underlying40 sz57 (by omega) (by omega)) rfl ?_
  refine St.ev _ (Ev.ld1 (.mk rfl) hw Tryd.underlying57 trivial rfl) rfl ?_
  refine St.asg ?_
  refine St.nil (St.then_normal (St.seq (St.rg ?_)))
  refine St.mv ?_
  refine St.ev _ (Ev.idxaddr (k := 0) (.mk rfl) (.mk rfl) Tryd.underlying57 sz3 rfl (by omega)) rfl ?_
  refine St.ev _ (Ev.ld1 (.mk rfl) hx0 Tryd.underlying3 trivial rfl) rfl ?_
  refine St.ev _ (Ev.build (ps := [(0, (.tmp 16))]) (Opds.cons (Opd.mk rfl) Opds.nil) (fun w => bld116_0 rfl w)) rfl ?_
  refine St.alloc zc116 rfl (fun b6 => ?_)
  refine St.storeA (Opd.mk rfl) (Opd.mk rfl) sz116 (by first | simp only [List.length_cons, List.length_nil] | rfl) rfl ?_
  refine St.nil (St.then_normal (St.seq (St.seq (St.rg ?_))))
  refine St.asg ?_
  refine St.nil (St.then_normal (St.block ?_))
  refine St.nilrow 118 2 ?_
  refine St.rowEqN (.slice none 0 0) (show _ = ((lkPairs (s.drop 1)).take 0).length from rfl) (show _ = rows linkR ((lkPairs (s.drop 1)).take 0) from rfl) ?_
  refine St.loopH2 (ι := Nat) (κ := Value) (fun j y T => (7, iv (1 + 2 * (j : Nat))) :: T) (fun j y => [blk b6 (.cells [iv x0, y].toArray 116 (0, 0)), row y 118 2 ((lkPairs (s.drop 1)).take j).length (rows linkR ((lkPairs (s.drop 1)).take j)), dat (sl intR w.1 s), blk b3 (.cells [vz].toArray 30 (0, 0)), row vz 116 2 (X).length (rows nodeR (X)), dat (dall nodeD X), blk b2 (.cells [(.slice none 0 0)].toArray 30 (0, 0)), dat (sl valR u vs), dat (ptw intR vs xss)]) (fun j y => j ≤ (s.length - 1) / 2 ∧ y.oneCell' = true) (fun j y => (s.length - 1) / 2 - j) 0 (.slice none 0 0) (Keep.cons 2 rfl (Keep.cons 3 rfl (Keep.cons 5 rfl (Keep.cons 6 rfl (Keep.cons 8 rfl (Keep.cons 9 rfl (Keep.cons 10 rfl Keep.nil))))))) ⟨Nat.zero_le _, rfl⟩ (by repeat (first | exact Sub.nil | refine Sub.cons (by first | rfl | exact congrArg (fun z => some (iv z)) (by first | omega | (dsimp only; omega)) | exact congrArg (fun z => some (Value.bool z)) (by first | assumption | exact Eq.symm (by assumption))) ?_)) (fun _ hw => hw.sub) ?_
  rintro j y ⟨hj, hy⟩
  have hjl : ((lkPairs (s.drop 1)).take j).length ≤ 60 := by rw [List.length_take]; omega
  refine St.seq (St.seq (St.rg ?_))
  refine St.mv ?_
  refine St.ev _ (Ev.add (.mk rfl) (.mk rfl) (by omega)) rfl ?_
  refine St.mv ?_
  refine St.ev _ (Ev.lensl (.mk rfl) Tryd.underlying57) rfl ?_
  refine St.ev _ (Ev.lss (.mk rfl) (.mk rfl)) rfl ?_
  refine St.nil (St.then_normal ?_)
  refine St.cond _ rfl (fun h22 => ?_) (fun h22 => ?_)
  ·skip
   try simp only [jbAll] at h22
   have hjb : 1 + 2 * j + 1 < s.length := by omega
   obtain ⟨xa, hxa⟩ := some_of_lt (show 1 + 2 * j < s.length by omega)
   obtain ⟨xb, hxb⟩ := some_of_lt (show 1 + 2 * j + 1 < s.length by omega)
   have hlk : (lkPairs (s.drop 1))[j]? = some ⟨xa, xb⟩ := lkPairs_get (by rw [drop_at]; exact hxa) (by rw [drop_at, ← Nat.add_assoc]; exact hxb)
   refine St.skip (St.then_normal (St.seq (St.block ?_)))
   refine St.parL [blk b6 (.cells [iv x0, y].toArray 116 (0, 0)), row y 118 2 ((lkPairs (s.drop 1)).take j).length (rows linkR ((lkPairs (s.drop 1)).take j))] mixed ?_
   refine SW.defer 0 (by repeat (first | refine NP.then ?_ | refine NP.inBlock ?_ | exact NP.body)) (by kernel_rfl) rfl (fun R => Ev.fldb0 (.mk rfl) fo116_1) (by kernel_rfl) rfl ?_
   refine SW.defer 2 (by repeat (first | refine NP.then ?_ | refine NP.inBlock ?_ | exact NP.body)) (by kernel_rfl) rfl (fun R => Ev.move (.mk rfl)) (by kernel_rfl) rfl ?_
   refine SW.defer 3 (by repeat (first | refine NP.then ?_ | refine NP.inBlock ?_ | exact NP.body)) (by kernel_rfl) rfl (fun R => Ev.move (.mk rfl)) (by kernel_rfl) rfl ?_
   refine SW.defer 4 (by repeat (first | refine NP.then ?_ | refine NP.inBlock ?_ | exact NP.body)) (by kernel_rfl) rfl (fun R => Ev.idxaddr (k := (1 + 2 * j)) (.mk rfl) (.mk rfl) Tryd.underlying57 sz3 (by omega) (by omega)) (by kernel_rfl) rfl ?_
   refine SW.defer 5 (by repeat (first | refine NP.then ?_ | refine NP.inBlock ?_ | exact NP.body)) (by kernel_rfl) rfl (fun R => Ev.ld1 (.mk rfl) hxa Tryd.underlying3 trivial rfl) (by kernel_rfl) rfl ?_
   refine SW.defer 6 (by repeat (first | refine NP.then ?_ | refine NP.inBlock ?_ | exact NP.body)) (by kernel_rfl) rfl (fun R => Ev.move (.mk rfl)) (by kernel_rfl) rfl ?_
   refine SW.defer 7 (by repeat (first | refine NP.then ?_ | refine NP.inBlock ?_ | exact NP.body)) (by kernel_rfl) rfl (fun R => Ev.move (.mk rfl)) (by kernel_rfl) rfl ?_
   refine SW.defer 8 (by repeat (first | refine NP.then ?_ | refine NP.inBlock ?_ | exact NP.body)) (by kernel_rfl) rfl (fun R => Ev.add (.mk rfl) (.mk rfl) (by omega)) (by kernel_rfl) rfl ?_
   refine SW.defer 9 (by repeat (first | refine NP.then ?_ | refine NP.inBlock ?_ | exact NP.body)) (by kernel_rfl) rfl (fun R => Ev.idxaddr (k := (1 + 2 * j + 1)) (.mk rfl) (.mk rfl) Tryd.underlying57 sz3 (by omega) (by omega)) (by kernel_rfl) rfl ?_
   refine SW.defer 10 (by repeat (first | refine NP.then ?_ | refine NP.inBlock ?_ | exact NP.body)) (by kernel_rfl) rfl (fun R => Ev.ld1 (.mk rfl) hxb Tryd.underlying3 trivial rfl) (by kernel_rfl) rfl ?_
   refine SW.defer 11 (by repeat (first | refine NP.then ?_ | refine NP.inBlock ?_ | exact NP.body)) (by kernel_rfl) rfl (fun R => Ev.build (ps := [(0, (.tmp 30)), (1, (.tmp 35))]) (Opds.cons (Opd.mk rfl) (Opds.cons (Opd.mk rfl) Opds.nil)) (fun w => bld118_0_1 rfl rfl w)) (by kernel_rfl) rfl ?_
   refine SW.turn2 (i := 1) (j := 12) (by kernel_rfl) rfl rfl ?_ ?_
   ·skip
    refine St.ev _ (Ev.ldb (.mk rfl) Tryd.underlying114 trivial (by rfl)) rfl ?_
    refine St.nil (St.then_normal ?_)
    refine SW.go ?_
    refine SW.turn1 (i := 12) (by kernel_rfl) rfl ?_
    refine St.bsl rfl (.cons (.mk rfl) .nil) Tryd.underlying114 sz118 zv118 rfl rfl (by simp [Value.cells]) rfl rfl (fun b37 => ?_)
    refine St.nil (St.then_normal ?_)
    refine SW.go ?_
    refine SW.turn1 (i := 13) (by kernel_rfl) rfl ?_
    refine St.appendRow (.mk rfl) (.mk rfl) Tryd.underlying114 sz118 zv118 by118 (by simp [Value.oneCell', Value.cells]) (by omega) (by omega) rfl rfl rfl rfl (fun v38 hv38 => ?_)
    refine St.rowEqN v38 (show _ = ((lkPairs (s.drop 1)).take (j + 1)).length by rw [take_of_some hlk]; exact len_snoc) (show _ = rows linkR ((lkPairs (s.drop 1)).take (j + 1)) from rowLk_snoc (x := ⟨xa, xb⟩) (take_of_some hlk)) ?_
    refine St.rowOne v38 (fun h38 _ => ?_)
    refine St.nil (St.then_normal ?_)
    refine SW.go ?_
    refine SW.defer 14 (by repeat (first | refine NP.then ?_ | refine NP.inBlock ?_ | exact NP.body)) (by kernel_rfl) rfl (fun R => Ev.fldb0 (.mk rfl) fo116_1) (by kernel_rfl) rfl ?_
    refine SW.turn1 (i := 15) (by kernel_rfl) rfl ?_
    refine St.store1 (.mk rfl) (.mk rfl) sz114 h38 (by rfl) ?_
    refine St.nil (St.then_normal ?_)
    refine SW.go ?_
    refine SW.done (by kernel_rfl) ?_
    refine St.in_normal (St.then_normal (St.rg ?_))
    refine St.mv ?_
    refine St.ev _ (Ev.add (.mk rfl) (.mk rfl) (by omega)) rfl ?_
    refine St.asg ?_
    refine St.nil (St.then_normal ?_)
    refine St.againH2 (j + 1) v38 ⟨by omega, h38⟩ (by first | omega | (dsimp only; omega)) (by repeat (first | exact Sub.nil | refine Sub.cons (by first | rfl | exact congrArg (fun z => some (iv z)) (by first | omega | (dsimp only; omega)) | exact congrArg (fun z => some (Value.bool z)) (by first | assumption | exact Eq.symm (by assumption))) ?_)) (fun _ hw => hw.sub)
   ·skip
    refine St.bsl rfl (.cons (.mk rfl) .nil) Tryd.underlying114 sz118 zv118 rfl rfl (by simp [Value.cells]) rfl rfl (fun b37 => ?_)
    refine St.nil (St.then_normal ?_)
    refine SW.go ?_
    refine SW.turn1 (i := 1) (by kernel_rfl) rfl ?_
    refine St.ev _ (Ev.ldb (.mk rfl) Tryd.underlying114 trivial (by rfl)) rfl ?_
    refine St.nil (St.then_normal ?_)
    refine SW.go ?_
    refine SW.turn1 (i := 13) (by kernel_rfl) rfl ?_
    refine St.appendRow (.mk rfl) (.mk rfl) Tryd.underlying114 sz118 zv118 by118 (by simp [Value.oneCell', Value.cells]) (by omega) (by omega) rfl rfl rfl rfl (fun v38 hv38 => ?_)
    refine St.rowEqN v38 (show _ = ((lkPairs (s.drop 1)).take (j + 1)).length by rw [take_of_some hlk]; exact len_snoc) (show _ = rows linkR ((lkPairs (s.drop 1)).take (j + 1)) from rowLk_snoc (x := ⟨xa, xb⟩) (take_of_some hlk)) ?_
    refine St.rowOne v38 (fun h38 _ => ?_)
    refine St.nil (St.then_normal ?_)
    refine SW.go ?_
    refine SW.defer 14 (by repeat (first | refine NP.then ?_ | refine NP.inBlock ?_ | exact NP.body)) (by kernel_rfl) rfl (fun R => Ev.fldb0 (.mk rfl) fo116_1) (by kernel_rfl) rfl ?_
    refine SW.turn1 (i := 15) (by kernel_rfl) rfl ?_
    refine St.store1 (.mk rfl) (.mk rfl) sz114 h38 (by rfl) ?_
    refine St.nil (St.then_normal ?_)
    refine SW.go ?_
    refine SW.done (by kernel_rfl) ?_
    refine St.in_normal (St.then_normal (St.rg ?_))
    refine St.mv ?_
    refine St.ev _ (Ev.add (.mk rfl) (.mk rfl) (by omega)) rfl ?_
    refine St.asg ?_
    refine St.nil (St.then_normal ?_)
    refine St.againH2 (j + 1) v38 ⟨by omega, h38⟩ (by first | omega | (dsimp only; omega)) (by repeat (first | exact Sub.nil | refine Sub.cons (by first | rfl | exact congrArg (fun z => some (iv z)) (by first | omega | (dsimp only; omega)) | exact congrArg (fun z => some (Value.bool z)) (by first | assumption | exact Eq.symm (by assumption))) ?_)) (fun _ hw => hw.sub)
  ·skip
   try simp only [jbAll] at h22
   obtain rfl : j = (s.length - 1) / 2 := by omega
   have htk : (lkPairs (s.drop 1)).take ((s.length - 1) / 2) = (lkPairs (s.drop 1)) := List.take_of_length_le (by omega)
   rw [htk]
   refine St.publish y linkR (lkPairs (s.drop 1)) rfl rfl (fun x hx => ⟨hsw _ (List.mem_of_mem_drop (lkPairs_mem hx).1), hsw _ (List.mem_of_mem_drop (lkPairs_mem hx).2)⟩) ?_
   refine St.mkD (nodeD ⟨x0, ⟨y, hy⟩, (lkPairs (s.drop 1))⟩) [sl linkR y (lkPairs (s.drop 1))] (fun ρ h => h _ (List.mem_cons_self ..)) ?_
   refine St.exit (St.then_exit (St.then_exit (St.in_hit (St.then_normal (St.rg ?_)))))
   refine St.ev _ (Ev.fldb0 (.mk rfl) fo30_0) rfl ?_
   refine St.ev _ (Ev.ldb (.mk rfl) Tryd.underlying28 trivial (by rfl)) rfl ?_
   refine St.ev _ (Ev.ldbA (.mk rfl) Tryd.underlying116 trivial (by exact sz116)) rfl ?_
   refine St.bsl rfl (.cons (.mk rfl) .nil) Tryd.underlying28 sz116 zv116 rfl rfl (by simp [J.cells_one hy, Value.cells]) rfl rfl (fun b43 => ?_)
   refine St.appendRow (.mk rfl) (.mk rfl) Tryd.underlying28 sz116 zv116 by116 (by intro q hq; simp [Value.cells] at hq; rcases hq with rfl | rfl; rfl; exact hy) (by omega) (by omega) rfl rfl rfl rfl (fun v44 hv44 => ?_)
   refine St.rowEqN v44 (show _ = (X ++ [(⟨x0, ⟨y, hy⟩, (lkPairs (s.drop 1))⟩ : NodeD)]).length from len_snoc) (show _ = rows nodeR (X ++ [(⟨x0, ⟨y, hy⟩, (lkPairs (s.drop 1))⟩ : NodeD)]) from rowNd_snoc (x := ⟨x0, ⟨y, hy⟩, (lkPairs (s.drop 1))⟩)) ?_
   refine St.rowOne v44 (fun h44 _ => ?_)
   refine St.dallSnoc nodeD (xs := X) (x := ⟨x0, ⟨y, hy⟩, (lkPairs (s.drop 1))⟩) ?_
   refine St.ev _ (Ev.fldb0 (.mk rfl) fo30_0) rfl ?_
   refine St.store1 (.mk rfl) (.mk rfl) sz28 h44 (by rfl) ?_
   refine St.nil (St.in_normal (St.then_normal (St.rg ?_)))
   refine St.ev _ (Ev.add (.mk rfl) (.mk rfl) (by omega)) rfl ?_
   refine St.mv ?_
   refine St.nil (St.then_normal ?_)
   refine St.againH2 (k + 1) (v44, X ++ [(⟨x0, ⟨y, hy⟩, (lkPairs (s.drop 1))⟩ : NodeD)]) ⟨by omega, h44, by rw [take_of_some hs, List.map_append, hX, graph0, graph0, List.map_append]; exact congrArg (fun q => List.map row0 (List.take k xss) ++ [q]) (row0_tail hx0).symm, fun x hx => (List.mem_append.1 hx).elim (hXw x) fun q => by rw [List.mem_singleton.1 q]; exact hsw x0 (List.mem_of_getElem? hx0)⟩ (by first | omega | (dsimp only; omega)) (by repeat (first | exact Sub.nil | refine Sub.cons (by first | rfl | exact congrArg (fun z => some (iv z)) (by first | omega | (dsimp only; omega)) | exact congrArg (fun z => some (Value.bool z)) (by first | assumption | exact Eq.symm (by assumption))) ?_)) (fun _ hw => hw.sub)
 ·skip
  try simp only [jbAll] at h11
  obtain rfl : k = xss.length := by omega
  rw [List.take_length] at hX
  refine St.exit (St.then_exit (St.then_exit (St.in_hit (St.then_normal (St.seq (St.rg ?_))))))
  refine St.ev _ (Ev.ldbA (.mk rfl) Tryd.underlying30 trivial (by exact sz30)) rfl ?_
  refine St.storeA (Opd.mk rfl) (Opd.mk rfl) sz30 (by first | simp only [List.length_cons, List.length_nil] | rfl) (by simp [hz]) ?_
  refine St.nil (St.then_normal (St.rett ?_))
  refine St.publish vz nodeR X rfl rfl hXw ?_
  refine St.mkD (graphD ⟨⟨vz, hz⟩, X⟩) [sl nodeR vz X, dall nodeD X] (fun ρ h => h) ?_
  refine St.toGraph ⟨⟨vz, hz⟩, X⟩ (g := graph0 xss) (graphV ⟨⟨vz, hz⟩, X⟩) rfl hX ?_
  refine St.rets [_] [dat (isGraph (graph0 xss) (graphV ⟨⟨vz, hz⟩, X⟩))] Tryd.results29 ⟨⟨_, _, _, _, rfl, InB.mem, .inl ⟨⟨_, Tryd.underlying30⟩, sz30, rfl⟩⟩, trivial⟩ ?_ (fun _ hw => hw.sub)
  rfl
end Go.Proofs.YtolmidffiegkaaaDoor

/-
  (YtolmidffiegkaaaDoorQ5)
  The walks of what makes hierarchies and entries.
  Conditions: none beyond the sizes.
-/
set_option maxRecDepth 20000
set_option linter.unusedSimpArgs false
set_option linter.unusedVariables false
namespace Go.Proofs.YtolmidffiegkaaaDoor
open Go Go.J
def hier0 (names : List Str) (ps : List Int) (k : Nat) : List Ty0 := (List.range k).map fun i => (names.getD i [], if i = 0 then [] else [ps.getD i 0])
theorem hier0_step (names : List Str) (ps : List Int) (k : Nat) : hier0 names ps (k + 1) = hier0 names ps k ++ [(names.getD k [], if k = 0 then [] else [ps.getD k 0])] := by
 unfold hier0; rw [List.range_succ, List.map_append]; rfl
theorem rowTy_snoc {X : List TyD} {x : TyD} : rows tyR X ++ [sv x.name, x.pv.1] = rows tyR (X ++ [x]) := by rw [rows_snoc]; rfl
theorem rowLx_snoc {X : List LexD} {x : LexD} : rows lexR X ++ lexC x = rows lexR (X ++ [x]) := by rw [rows_snoc]; rfl
set_option maxHeartbeats 800000 in
theorem hierarchyOf_spec (u1 u2 u3 : Value) (names : List Str) (ps : List Int) (hu3 : u3.oneCell' = true) (hlen : ps.length = names.length) (hl : names.length ≤ 60) : FnH Tryd.prog 27 #[u1, u2, u3] ([isSl strR names u1, isSl intR ps u2].map dat) (fun v H' => ∃ (tv : OneV) (ts : List TyD), v = .agg #[tv.1, u3] ∧ ts.map tyE = hier0 names ps names.length ∧ H' = [dat (sl tyR tv.1 ts), dat (dall tyD ts)]) := by
 refine FnH.body (args := [u1, u2, u3]) 38 Tryd.func27 rfl Tryd.ntmps27 rfl (fun c => ?_)
 refine St.cast (H' := [dat (isSl strR names u1), dat (isSl intR ps u2)]) rfl ?_
 refine St.seq ?_
 refine St.isSl strR names u1 (fun hu1 => ?_)
 refine St.isSl intR ps u2 (fun hu2 => ?_)
 refine St.wf u1 (fun hwf1 _ => ?_)
 refine St.wf u2 (fun hwf2 _ => ?_)
 refine St.rg ?_
 refine St.alloc zc25 rfl (fun b6 => ?_)
 refine St.nil (St.then_normal (St.seq (St.rg ?_)))
 refine St.alloc zc25 rfl (fun b7 => ?_)
 refine St.nil (St.then_normal (St.seq (St.seq (St.rg ?_))))
 refine St.mv ?_
 refine St.ev _ (Ev.lensl (.mk rfl) Tryd.underlying54) rfl ?_
 refine St.mv ?_
 refine St.nil (St.then_normal (St.block ?_))
 refine St.nilrow 113 2 ?_
 refine St.rowEqN (.slice none 0 0) (show _ = ([] : List TyD).length from rfl) (show _ = rows tyR [] from rfl) ?_
 refine St.dallNil tyD ?_
 refine St.loopH2 (ι := Nat) (κ := Value × List TyD) (fun k z T => (13, iv k) :: T) (fun k z => [blk b7 (.cells [z.1, (.slice none 0 0)].toArray 25 (0, 0)), row z.1 113 2 (z.2).length (rows tyR (z.2)), dat (dall tyD z.2), blk b6 (.cells [(.slice none 0 0), (.slice none 0 0)].toArray 25 (0, 0)), dat (sl strR u1 names), dat (sl intR u2 ps)]) (fun k z => k ≤ names.length ∧ z.1.oneCell' = true ∧ z.2.map tyE = hier0 names ps k ∧ ∀ x ∈ z.2, tyR.wf x) (fun k z => names.length - k) 0 ((.slice none 0 0), []) (Keep.cons 1 rfl (Keep.cons 2 rfl (Keep.cons 6 rfl (Keep.cons 7 rfl (Keep.cons 11 rfl (Keep.cons 12 rfl Keep.nil)))))) ⟨Nat.zero_le _, rfl, rfl, fun x hx => by cases hx⟩ (by repeat (first | exact Sub.nil | refine Sub.cons (by first | rfl | exact congrArg (fun z => some (iv z)) (by first | omega | (dsimp only; omega)) | exact congrArg (fun z => some (Value.bool z)) (by first | assumption | exact Eq.symm (by assumption))) ?_)) (fun _ hw => hw.sub) ?_
 rintro k ⟨vz, X⟩ ⟨hk, hz, hX, hXw⟩
 dsimp only at hz hX hXw ⊢
 have hXl := congrArg List.length hX
 rw [List.length_map, hier0, List.length_map, List.length_range] at hXl
 refine St.seq (St.rg ?_)
 refine St.ev _ (Ev.lss (.mk rfl) (.mk rfl)) rfl ?_
 refine St.nil (St.then_normal (St.seq ?_))
 refine St.cond _ rfl (fun h14 => ?_) (fun h14 => ?_)
 ·skip
  try simp only [jbAll] at h14
  obtain ⟨nm, hnm⟩ := some_of_lt (show k < names.length by omega)
  obtain ⟨p, hp⟩ := some_of_lt (show k < ps.length by omega)
  have hgn : names.getD k [] = nm := by rw [List.getD_eq_getElem?_getD, hnm]; rfl
  have hgp : ps.getD k 0 = p := by rw [List.getD_eq_getElem?_getD, hp]; rfl
  have hnw := hwf1 nm (List.mem_of_getElem? hnm)
  have hpw := hwf2 p (List.mem_of_getElem? hp)
  have hst := hier0_step names ps k
  refine St.skip (St.then_normal (St.seq (St.block (St.seq (St.rg ?_)))))
  refine St.mv ?_
  refine St.ev _ (Ev.idxaddr (k := k) (.mk rfl) (.mk rfl) Tryd.underlying54 sz9 (by omega) (by omega)) rfl ?_
  refine St.ev _ (Ev.ld1 (.mk rfl) hnm Tryd.underlying9 trivial rfl) rfl ?_
  refine St.asg ?_
  refine St.asg ?_
  refine St.nil (St.then_normal (St.seq (St.rg ?_)))
  refine St.mv ?_
  refine St.ev _ (Ev.build (ps := [(0, (.tmp 18))]) (Opds.cons (Opd.mk rfl) Opds.nil) (fun w => bld113_0 rfl w)) rfl ?_
  refine St.alloc zc113 rfl (fun b10 => ?_)
  refine St.storeA (Opd.mk rfl) (Opd.mk rfl) sz113 (by first | simp only [List.length_cons, List.length_nil] | rfl) rfl ?_
  refine St.nil (St.then_normal ?_)
  refine St.join (ι := Value) (fun y T => T) (fun y => [blk b10 (.cells [sv nm, y].toArray 113 (0, 0)), dat (sl intR y (if k = 0 then [] else [p])), blk b7 (.cells [vz, (.slice none 0 0)].toArray 25 (0, 0)), row vz 113 2 (X).length (rows tyR (X)), dat (dall tyD X), blk b6 (.cells [(.slice none 0 0), (.slice none 0 0)].toArray 25 (0, 0)), dat (sl strR u1 names), dat (sl intR u2 ps)]) (fun y => y.oneCell' = true) (Keep.cons 1 rfl (Keep.cons 2 rfl (Keep.cons 6 rfl (Keep.cons 7 rfl (Keep.cons 10 rfl (Keep.cons 11 rfl (Keep.cons 12 rfl (Keep.cons 13 rfl Keep.nil)))))))) ?_ ?_
  ·skip
   refine St.seq (St.rg ?_)
   refine St.mv ?_
   refine St.ev _ (Ev.gtr (.mk rfl) (.mk rfl)) rfl ?_
   refine St.nil (St.then_normal ?_)
   refine St.cond _ rfl (fun h21 => ?_) (fun h21 => ?_)
   ·skip
    try simp only [jbAll] at h21
    rw [if_neg (show ¬ k = 0 by omega)]
    refine St.rg ?_
    refine St.mv ?_
    refine St.mv ?_
    refine St.ev _ (Ev.idxaddr (k := k) (.mk rfl) (.mk rfl) Tryd.underlying57 sz3 (by omega) (by omega)) rfl ?_
    refine St.ev _ (Ev.ld1 (.mk rfl) hp Tryd.underlying3 trivial rfl) rfl ?_
    refine St.bsl rfl (.cons (.mk rfl) .nil) Tryd.underlying57 sz3 zv3 rfl rfl (by simp [Value.cells]) rfl rfl (fun b26 => ?_)
    refine St.publish (.slice (some ⟨b26, 0, none⟩) 1 1) intR [p] rfl rfl (one_of hpw) ?_
    refine St.ev _ (Ev.fldb0 (.mk rfl) fo113_1) rfl ?_
    refine St.store1 (.mk rfl) (.mk rfl) sz57 rfl (by rfl) ?_
    refine St.nil (St.then_normal ?_)
    refine St.met (.slice (some ⟨b26, 0, none⟩) 1 1) rfl (by repeat (first | exact Sub.nil | refine Sub.cons (by first | rfl | exact congrArg (fun z => some (iv z)) (by first | omega | (dsimp only; omega)) | exact congrArg (fun z => some (Value.bool z)) (by first | assumption | exact Eq.symm (by assumption))) ?_)) (fun _ hw => hw.sub)
   ·skip
    try simp only [jbAll] at h21
    rw [if_pos (show k = 0 by omega)]
    refine St.slNil intR ?_
    refine St.skip (St.then_normal ?_)
    refine St.met (.slice none 0 0) rfl (by repeat (first | exact Sub.nil | refine Sub.cons (by first | rfl | exact congrArg (fun z => some (iv z)) (by first | omega | (dsimp only; omega)) | exact congrArg (fun z => some (Value.bool z)) (by first | assumption | exact Eq.symm (by assumption))) ?_)) (fun _ hw => hw.sub)
  ·skip
   intro y hy
   have hnd : (⟨nm, ⟨y, hy⟩, if k = 0 then [] else [p]⟩ : TyD) = ⟨nm, ⟨y, hy⟩, if k = 0 then [] else [p]⟩ := rfl
   refine St.rg ?_
   refine St.ev _ (Ev.fldb0 (.mk rfl) fo25_0) rfl ?_
   refine St.ev _ (Ev.ldb (.mk rfl) Tryd.underlying22 trivial (by rfl)) rfl ?_
   refine St.ev _ (Ev.ldbA (.mk rfl) Tryd.underlying113 trivial (by exact sz113)) rfl ?_
   refine St.bsl rfl (.cons (.mk rfl) .nil) Tryd.underlying22 sz113 zv113 rfl rfl (by simp [J.cells_one hy, Value.cells]) rfl rfl (fun b31 => ?_)
   refine St.appendRow (.mk rfl) (.mk rfl) Tryd.underlying22 sz113 zv113 by113 (by intro q hq; simp [Value.cells] at hq; rcases hq with rfl | rfl; rfl; exact hy) (by omega) (by omega) rfl rfl rfl rfl (fun v32 hv32 => ?_)
   refine St.mkD (tyD ⟨nm, ⟨y, hy⟩, if k = 0 then [] else [p]⟩) [sl intR y (if k = 0 then [] else [p])] (fun ρ h => h _ (List.mem_cons_self ..)) ?_
   refine St.rowEqN v32 (show _ = (X ++ [(⟨nm, ⟨y, hy⟩, if k = 0 then [] else [p]⟩ : TyD)]).length from len_snoc) (show _ = rows tyR (X ++ [(⟨nm, ⟨y, hy⟩, if k = 0 then [] else [p]⟩ : TyD)]) from rowTy_snoc (x := ⟨nm, ⟨y, hy⟩, if k = 0 then [] else [p]⟩)) ?_
   refine St.rowOne v32 (fun h32 _ => ?_)
   refine St.dallSnoc tyD (xs := X) (x := ⟨nm, ⟨y, hy⟩, if k = 0 then [] else [p]⟩) ?_
   refine St.ev _ (Ev.fldb0 (.mk rfl) fo25_0) rfl ?_
   refine St.store1 (.mk rfl) (.mk rfl) sz22 h32 (by rfl) ?_
   refine St.nil (St.in_normal (St.then_normal (St.rg ?_)))
   refine St.ev _ (Ev.add (.mk rfl) (.mk rfl) (by omega)) rfl ?_
   refine St.mv ?_
   refine St.nil (St.then_normal ?_)
   refine St.againH2 (k + 1) (v32, X ++ [(⟨nm, ⟨y, hy⟩, if k = 0 then [] else [p]⟩ : TyD)]) ⟨by omega, h32, by rw [List.map_append, hX, hst, hgn, hgp]; rfl, fun x hx => (List.mem_append.1 hx).elim (hXw x) fun q => by rw [List.mem_singleton.1 q]; exact hnw⟩ (by first | omega | (dsimp only; omega)) (by repeat (first | exact Sub.nil | refine Sub.cons (by first | rfl | exact congrArg (fun z => some (iv z)) (by first | omega | (dsimp only; omega)) | exact congrArg (fun z => some (Value.bool z)) (by first | assumption | exact Eq.symm (by assumption))) ?_)) (fun _ hw => hw.sub)
 ·skip
  try simp only [jbAll] at h14
  obtain rfl : k = names.length := by omega
  refine St.exit (St.then_exit (St.then_exit (St.in_hit (St.then_normal (St.seq (St.rg ?_))))))
  refine St.mv ?_
  refine St.ev _ (Ev.fldb0 (.mk rfl) fo25_1) rfl ?_
  refine St.store1 (.mk rfl) (.mk rfl) sz23 hu3 (by rfl) ?_
  refine St.nil (St.then_normal (St.seq (St.rg ?_)))
  refine St.ev _ (Ev.ldbA (.mk rfl) Tryd.underlying25 trivial (by exact sz25)) rfl ?_
  refine St.storeA (Opd.mk rfl) (Opd.mk rfl) sz25 (by first | simp only [List.length_cons, List.length_nil] | rfl) (by simp [hz, hu3]) ?_
  refine St.nil (St.then_normal (St.rett ?_))
  refine St.publish vz tyR X rfl rfl hXw ?_
  refine St.rets [_] [dat (sl tyR vz X), dat (dall tyD X)] Tryd.results27 ⟨⟨_, _, _, _, rfl, InB.mem, .inl ⟨⟨_, Tryd.underlying25⟩, sz25, rfl⟩⟩, trivial⟩ ?_ (fun _ hw => hw.sub)
  exact ⟨⟨vz, hz⟩, X, rfl, hX, rfl⟩
set_option maxHeartbeats 800000 in
theorem add_spec (b : Nat) (q0 q1 q2 q4 xv : Value) (X : List LexD) (word : Str) (wt : Int) (u w : Value) (t : Tm0) (xss : List (List Int)) (hw : slen word) (hwt : i64ok wt) (hxv : xv.oneCell' = true) (hXl : X.length ≤ 100) (hX : ∀ x ∈ X, lexR.wf x)
  (hne : xss.all (fun xs => decide (0 < xs.length) && decide (xs.length ≤ 60)) = true) (hl : xss.length ≤ 60) : FnH Tryd.prog 30 ([sv word, iv wt, u, w] ++ [Value.pointer (some ⟨b, 0, none⟩)]).toArray [dat (isTerm t u), dat (isNsl intR xss w), dat (dall lexD X), blk b (.cells [q0, q1, q2, xv, q4].toArray 32 (0, 0)), row xv 82 9 (X).length (rows lexR (X))]
  (fun v H' => ∃ (xv' : Value) (x : LexD), v = .tuple #[] ∧ xv'.oneCell' = true ∧ lxE x = ⟨word, graph0 xss, wt, t⟩ ∧ lexR.wf x ∧ H' = [blk b (.cells [q0, q1, q2, xv', q4].toArray 32 (0, 0)), row xv' 82 9 (X ++ [x]).length (rows lexR (X ++ [x])), dat (dall lexD (X ++ [x]))]) := by
 refine FnH.body (args := [sv word, iv wt, u, w] ++ [Value.pointer (some ⟨b, 0, none⟩)]) 20 Tryd.func30 rfl Tryd.ntmps30 rfl (fun c => ?_)
 refine St.seq ?_
 refine St.cast (H' := [dat (isTerm t u), dat (isNsl intR xss w), dat (dall lexD X), blk b (.cells [q0, q1, q2, xv, q4].toArray 32 (0, 0)), row xv 82 9 (X).length (rows lexR (X))]) rfl ?_
 refine St.isTerm t u (fun x hx => ?_)
 obtain ⟨rfl, rfl, hxw⟩ := hx
 obtain ⟨hx1, hx2, hx3, hx4⟩ := hxw
 refine St.rg ?_
 refine St.boxA (.mk rfl) rfl (fun b7 => ?_)
 refine St.nil (St.then_normal ?_)
 refine St.parL [blk b (.cells [q0, q1, q2, xv, q4].toArray 32 (0, 0)), row xv 82 9 (X).length (rows lexR (X))] mixed ?_
 refine SW.defer 0 (by repeat (first | refine NP.then ?_ | refine NP.inBlock ?_ | exact NP.body)) (by kernel_rfl) rfl (fun R => Ev.fldb0 (.mk rfl) fo32_2) (by kernel_rfl) rfl ?_
 refine SW.defer 2 (by repeat (first | refine NP.then ?_ | refine NP.inBlock ?_ | exact NP.body)) (by kernel_rfl) rfl (fun R => Ev.move (.mk rfl)) (by kernel_rfl) rfl ?_
 refine SW.defer 3 (by repeat (first | refine NP.then ?_ | refine NP.inBlock ?_ | exact NP.body)) (by kernel_rfl) rfl (fun R => Ev.move (.mk rfl)) (by kernel_rfl) rfl ?_
 refine SW.defer 4 (by repeat (first | refine NP.then ?_ | refine NP.inBlock ?_ | exact NP.body)) (by kernel_rfl) rfl (fun R => Ev.ldbA (.mk rfl) Tryd.underlying80 trivial (by exact sz80)) (by kernel_rfl) rfl ?_
 refine SW.defer 5 (by repeat (first | refine NP.then ?_ | refine NP.inBlock ?_ | exact NP.body)) (by kernel_rfl) rfl (fun R => Ev.move (.mk rfl)) (by kernel_rfl) rfl ?_
 refine SW.turn2 (i := 1) (j := 6) (by kernel_rfl) rfl rfl ?_ ?_
 ·skip
  refine St.ev _ (Ev.ldb (.mk rfl) Tryd.underlying27 trivial (by rfl)) rfl ?_
  refine St.nil (St.then_normal ?_)
  refine SW.go ?_
  refine SW.turn1 (i := 6) (by kernel_rfl) rfl ?_
  refine St.calld (graphOf_spec w xss hne hl) cb29 (.cons (.mk rfl) .nil) rfl ?_
  rintro v15 _ rfl
  refine St.app1 ?_
  refine St.isGraph (graph0 xss) v15 (fun y hy => ?_)
  obtain ⟨rfl, hyE⟩ := hy
  refine St.nil (St.then_normal ?_)
  refine SW.go ?_
  refine SW.defer 7 (by repeat (first | refine NP.then ?_ | refine NP.inBlock ?_ | exact NP.body)) (by kernel_rfl) rfl (fun R => Ev.build (ps := [(0, (.tmp 11)), (2, (.tmp 12)), (3, (.tmp 13)), (1, (.tmp 15))]) (Opds.cons (Opd.mk rfl) (Opds.cons (Opd.mk rfl) (Opds.cons (Opd.mk rfl) (Opds.cons (Opd.mk rfl) Opds.nil)))) (fun w => bld82_0_2_3_1 rfl rfl w)) (by kernel_rfl) rfl ?_
  refine SW.turn1 (i := 8) (by kernel_rfl) rfl ?_
  refine St.bsl rfl (.cons (.mk rfl) .nil) Tryd.underlying27 sz82 zv82 rfl rfl (by simp [J.cells_one y.nv.2, J.cells_one x.type.av.2, J.cells_one x.av.2, Value.cells]) rfl rfl (fun b17 => ?_)
  refine St.nil (St.then_normal ?_)
  refine SW.go ?_
  refine SW.turn1 (i := 9) (by kernel_rfl) rfl ?_
  refine St.appendRow (.mk rfl) (.mk rfl) Tryd.underlying27 sz82 zv82 by82 (by intro q hq; exact lexR.one (⟨word, y, wt, x⟩ : LexD) q (by show q ∈ lexC (⟨word, y, wt, x⟩ : LexD); simpa [Value.cells] using hq)) (by omega) (by omega) rfl rfl rfl rfl (fun v18 hv18 => ?_)
  refine St.mkD (lexD (⟨word, y, wt, x⟩ : LexD)) [graphD y, termD x] (fun ρ h => h) ?_
  refine St.rowEqN v18 (show _ = (X ++ [(⟨word, y, wt, x⟩ : LexD)]).length from len_snoc) (show _ = rows lexR (X ++ [(⟨word, y, wt, x⟩ : LexD)]) from rowLx_snoc (x := (⟨word, y, wt, x⟩ : LexD))) ?_
  refine St.rowOne v18 (fun h18 _ => ?_)
  refine St.dallSnoc lexD (xs := X) (x := (⟨word, y, wt, x⟩ : LexD)) ?_
  refine St.nil (St.then_normal ?_)
  refine SW.go ?_
  refine SW.defer 10 (by repeat (first | refine NP.then ?_ | refine NP.inBlock ?_ | exact NP.body)) (by kernel_rfl) rfl (fun R => Ev.fldb0 (.mk rfl) fo32_2) (by kernel_rfl) rfl ?_
  refine SW.turn1 (i := 11) (by kernel_rfl) rfl ?_
  refine St.store1 (.mk rfl) (.mk rfl) sz27 h18 (by rfl) ?_
  refine St.nil (St.then_normal ?_)
  refine SW.go ?_
  refine SW.done (by kernel_rfl) ?_
  refine St.rets_normal ?_
  refine St.rets [] [blk b (.cells [q0, q1, q2, v18, q4].toArray 32 (0, 0)), row v18 82 9 (X ++ [(⟨word, y, wt, x⟩ : LexD)]).length (rows lexR (X ++ [(⟨word, y, wt, x⟩ : LexD)])), dat (dall lexD (X ++ [(⟨word, y, wt, x⟩ : LexD)]))] Tryd.results30 trivial ?_ (fun _ hw => hw.sub)
  exact ⟨v18, (⟨word, y, wt, x⟩ : LexD), rfl, h18, by rw [← hyE]; rfl, ⟨hw, hwt, hx1, hx2, hx3, hx4⟩, rfl⟩
 ·skip
  refine St.calld (graphOf_spec w xss hne hl) cb29 (.cons (.mk rfl) .nil) rfl ?_
  rintro v15 _ rfl
  refine St.app1 ?_
  refine St.isGraph (graph0 xss) v15 (fun y hy => ?_)
  obtain ⟨rfl, hyE⟩ := hy
  refine St.nil (St.then_normal ?_)
  refine SW.go ?_
  refine SW.defer 7 (by repeat (first | refine NP.then ?_ | refine NP.inBlock ?_ | exact NP.body)) (by kernel_rfl) rfl (fun R => Ev.build (ps := [(0, (.tmp 11)), (2, (.tmp 12)), (3, (.tmp 13)), (1, (.tmp 15))]) (Opds.cons (Opd.mk rfl) (Opds.cons (Opd.mk rfl) (Opds.cons (Opd.mk rfl) (Opds.cons (Opd.mk rfl) Opds.nil)))) (fun w => bld82_0_2_3_1 rfl rfl w)) (by kernel_rfl) rfl ?_
  refine SW.turn2 (i := 1) (j := 8) (by kernel_rfl) rfl rfl ?_ ?_
  ·skip
   refine St.ev _ (Ev.ldb (.mk rfl) Tryd.underlying27 trivial (by rfl)) rfl ?_
   refine St.nil (St.then_normal ?_)
   refine SW.go ?_
   refine SW.turn1 (i := 8) (by kernel_rfl) rfl ?_
   refine St.bsl rfl (.cons (.mk rfl) .nil) Tryd.underlying27 sz82 zv82 rfl rfl (by simp [J.cells_one y.nv.2, J.cells_one x.type.av.2, J.cells_one x.av.2, Value.cells]) rfl rfl (fun b17 => ?_)
   refine St.nil (St.then_normal ?_)
   refine SW.go ?_
   refine SW.turn1 (i := 9) (by kernel_rfl) rfl ?_
   refine St.appendRow (.mk rfl) (.mk rfl) Tryd.underlying27 sz82 zv82 by82 (by intro q hq; exact lexR.one (⟨word, y, wt, x⟩ : LexD) q (by show q ∈ lexC (⟨word, y, wt, x⟩ : LexD); simpa [Value.cells] using hq)) (by omega) (by omega) rfl rfl rfl rfl (fun v18 hv18 => ?_)
   refine St.mkD (lexD (⟨word, y, wt, x⟩ : LexD)) [graphD y, termD x] (fun ρ h => h) ?_
   refine St.rowEqN v18 (show _ = (X ++ [(⟨word, y, wt, x⟩ : LexD)]).length from len_snoc) (show _ = rows lexR (X ++ [(⟨word, y, wt, x⟩ : LexD)]) from rowLx_snoc (x := (⟨word, y, wt, x⟩ : LexD))) ?_
   refine St.rowOne v18 (fun h18 _ => ?_)
   refine St.dallSnoc lexD (xs := X) (x := (⟨word, y, wt, x⟩ : LexD)) ?_
   refine St.nil (St.then_normal ?_)
   refine SW.go ?_
   refine SW.defer 10 (by repeat (first | refine NP.then ?_ | refine NP.inBlock ?_ | exact NP.body)) (by kernel_rfl) rfl (fun R => Ev.fldb0 (.mk rfl) fo32_2) (by kernel_rfl) rfl ?_
   refine SW.turn1 (i := 11) (by kernel_rfl) rfl ?_
   refine St.store1 (.mk rfl) (.mk rfl) sz27 h18 (by rfl) ?_
   refine St.nil (St.then_normal ?_)
   refine SW.go ?_
   refine SW.done (by kernel_rfl) ?_
   refine St.rets_normal ?_
   refine St.rets [] [blk b (.cells [q0, q1, q2, v18, q4].toArray 32 (0, 0)), row v18 82 9 (X ++ [(⟨word, y, wt, x⟩ : LexD)]).length (rows lexR (X ++ [(⟨word, y, wt, x⟩ : LexD)])), dat (dall lexD (X ++ [(⟨word, y, wt, x⟩ : LexD)]))] Tryd.results30 trivial ?_ (fun _ hw => hw.sub)
   exact ⟨v18, (⟨word, y, wt, x⟩ : LexD), rfl, h18, by rw [← hyE]; rfl, ⟨hw, hwt, hx1, hx2, hx3, hx4⟩, rfl⟩
  ·skip
   refine St.bsl rfl (.cons (.mk rfl) .nil) Tryd.underlying27 sz82 zv82 rfl rfl (by simp [J.cells_one y.nv.2, J.cells_one x.type.av.2, J.cells_one x.av.2, Value.cells]) rfl rfl (fun b17 => ?_)
   refine St.nil (St.then_normal ?_)
   refine SW.go ?_
   refine SW.turn1 (i := 1) (by kernel_rfl) rfl ?_
   refine St.ev _ (Ev.ldb (.mk rfl) Tryd.underlying27 trivial (by rfl)) rfl ?_
   refine St.nil (St.then_normal ?_)
   refine SW.go ?_
   refine SW.turn1 (i := 9) (by kernel_rfl) rfl ?_
   refine St.appendRow (.mk rfl) (.mk rfl) Tryd.underlying27 sz82 zv82 by82 (by intro q hq; exact lexR.one (⟨word, y, wt, x⟩ : LexD) q (by show q ∈ lexC (⟨word, y, wt, x⟩ : LexD); simpa [Value.cells] using hq)) (by omega) (by omega) rfl rfl rfl rfl (fun v18 hv18 => ?_)
   refine St.mkD (lexD (⟨word, y, wt, x⟩ : LexD)) [graphD y, termD x] (fun ρ h => h) ?_
   refine St.rowEqN v18 (show _ = (X ++ [(⟨word, y, wt, x⟩ : LexD)]).length from len_snoc) (show _ = rows lexR (X ++ [(⟨word, y, wt, x⟩ : LexD)]) from rowLx_snoc (x := (⟨word, y, wt, x⟩ : LexD))) ?_
   refine St.rowOne v18 (fun h18 _ => ?_)
   refine St.dallSnoc lexD (xs := X) (x := (⟨word, y, wt, x⟩ : LexD)) ?_
   refine St.nil (St.then_normal ?_)
   refine SW.go ?_
   refine SW.defer 10 (by repeat (first | refine NP.then ?_ | refine NP.inBlock ?_ | exact NP.body)) (by kernel_rfl) rfl (fun R => Ev.fldb0 (.mk rfl) fo32_2) (by kernel_rfl) rfl ?_
   refine SW.turn1 (i := 11) (by kernel_rfl) rfl ?_
   refine St.store1 (.mk rfl) (.mk rfl) sz27 h18 (by rfl) ?_
   refine St.nil (St.then_normal ?_)
   refine SW.go ?_
   refine SW.done (by kernel_rfl) ?_
   refine St.rets_normal ?_
   refine St.rets [] [blk b (.cells [q0, q1, q2, v18, q4].toArray 32 (0, 0)), row v18 82 9 (X ++ [(⟨word, y, wt, x⟩ : LexD)]).length (rows lexR (X ++ [(⟨word, y, wt, x⟩ : LexD)])), dat (dall lexD (X ++ [(⟨word, y, wt, x⟩ : LexD)]))] Tryd.results30 trivial ?_ (fun _ hw => hw.sub)
   exact ⟨v18, (⟨word, y, wt, x⟩ : LexD), rfl, h18, by rw [← hyE]; rfl, ⟨hw, hwt, hx1, hx2, hx3, hx4⟩, rfl⟩
end Go.Proofs.YtolmidffiegkaaaDoor
