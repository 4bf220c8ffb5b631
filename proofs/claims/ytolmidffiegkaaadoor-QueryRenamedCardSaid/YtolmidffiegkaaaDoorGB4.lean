/-
  Several texts in one: YtolmidffiegkaaaDoorQ15, YtolmidffiegkaaaDoorQ16, YtolmidffiegkaaaDoorQ17, YtolmidffiegkaaaDoorQ18, YtolmidffiegkaaaDoorQ19, YtolmidffiegkaaaDoorQ20, YtolmidffiegkaaaDoorQ21, YtolmidffiegkaaaDoorMtcR, YtolmidffiegkaaaDoorFactsR, YtolmidffiegkaaaDoorQ26, YtolmidffiegkaaaDoorJ15c, YtolmidffiegkaaaDoorJ16, YtolmidffiegkaaaDoorJ33, YtolmidffiegkaaaDoorQ27, YtolmidffiegkaaaDoorQ28, YtolmidffiegkaaaDoorQ29.
  Conditions: none.
-/
import Derived.Test.YtolmidffiegkaaaDoorGB3
import Derived.Test.YtolmidffiegkaaaDoorGB2
import Derived.Test.YtolmidffiegkaaaDoorGB1
import Derived.Laws.Small
/-
  (YtolmidffiegkaaaDoorQ15)
  The walks of the checks of graphs.
  Conditions: none beyond the sizes.
-/
set_option maxRecDepth 20000
set_option linter.unusedSimpArgs false
set_option linter.unusedVariables false
namespace Go.Proofs.YtolmidffiegkaaaDoor
open Go Go.J
theorem loose_drop {nt nf nn : Int} {l : Gr0} {k : Nat} {t : Nd0} (ht : l[k]? = some t) : looseFrom nt nf nn k (l.drop k) = if t.1 < 0 ∨ nt ≤ t.1 then (3, (k : Int)) else if (lkF nf nn k (-1) t.2).1 ≠ 0 then lkF nf nn k (-1) t.2 else looseFrom nt nf nn (k + 1) (l.drop (k + 1)) := by rw [drop_of_some ht, looseFrom]
theorem loose_end {nt nf nn : Int} {l : Gr0} {k : Nat} (h : l.length ≤ k) : looseFrom nt nf nn k (l.drop k) = (0, 0) := by rw [List.drop_of_length_le h, looseFrom]
theorem lkF_drop {nf nn i z : Int} {l : List (Int × Int)} {q : Nat} {x : Int × Int} (hx : l[q]? = some x) : lkF nf nn i z (l.drop q) = if x.1 < 0 ∨ nf ≤ x.1 ∨ x.2 < 0 ∨ nn ≤ x.2 then (3, i) else if x.1 ≤ z then (13, i) else lkF nf nn i x.1 (l.drop (q + 1)) := by rw [drop_of_some hx, lkF]
theorem lkF_end {nf nn i z : Int} {l : List (Int × Int)} {q : Nat} (h : l.length ≤ q) : lkF nf nn i z (l.drop q) = (0, 0) := by rw [List.drop_of_length_le h, lkF]
theorem grE_len (g : GraphD) : (grE g).length = g.nodes.length := List.length_map ..
theorem grE_at {g : GraphD} {k : Nat} {t : NodeD} (h : g.nodes[k]? = some t) : (grE g)[k]? = some (ndE t) := by unfold grE; rw [List.getElem?_map, h]; rfl
set_option maxHeartbeats 2000000 in
theorem Loose_spec (tv xv : OneV) (ts : List TyD) (fs : List FeatD) (g : GraphD) : FnV Tryd.prog 56 #[.agg #[tv.1, xv.1], graphV g] [sl tyR tv.1 ts, sl featR xv.1 fs, graphD g] (fv (looseF ts.length fs.length (grE g))) := by
 refine FnV.body3 (args := [.agg #[tv.1, xv.1], graphV g]) 86 Tryd.func56 rfl Tryd.ntmps56 rfl (fun c => ?_)
 refine St.seq ?_
 refine St.openD (graphD g) (fun _ : Unit => graphL g) (fun ρ h => ⟨(), h⟩) fun _ => ?_
 refine St.cast (H' := [dat (sl nodeR g.nv.1 g.nodes), dat (dall nodeD g.nodes), dat (sl tyR tv.1 ts), dat (sl featR xv.1 fs), dat (graphD g)]) rfl ?_
 refine St.wf tv.1 (fun htw htl => ?_)
 refine St.wf xv.1 (fun hfw hfl => ?_)
 refine St.wf g.nv.1 (fun hnw hnl => ?_)
 have hgl := grE_len g
 refine St.rg ?_
 refine St.boxA (.mk rfl) rfl (fun b2 => ?_)
 refine St.boxA (.mk rfl) rfl (fun b3 => ?_)
 refine St.alloc zc42 rfl (fun b4 => ?_)
 refine St.nil (St.then_normal (St.seq (St.seq (St.rg ?_))))
 refine St.ev _ (Ev.fldb0 (.mk rfl) fo30_0) rfl ?_
 refine St.ev _ (Ev.ldb (.mk rfl) Tryd.underlying28 trivial (by rfl)) rfl ?_
 refine St.ev _ (Ev.lensl (.mk rfl) Tryd.underlying28) rfl ?_
 refine St.ev _ (Ev.eql (.mk rfl) (.mk rfl)) rfl ?_
 refine St.mv ?_
 refine St.gf _ rfl rfl (fun hg => Ev.fldb0 (.mk rfl) fo30_0) rfl ?_
 refine St.gf _ rfl rfl (fun hg => Ev.ldb (Opd.gv rfl hg) Tryd.underlying28 trivial (by rfl)) rfl ?_
 refine St.gf _ rfl rfl (fun hg => Ev.lensl (Opd.gv rfl hg) Tryd.underlying28) rfl ?_
 refine St.gf _ rfl rfl (fun hg => Ev.gtr (Opd.gv rfl hg) (.mk rfl)) rfl ?_
 refine St.ev _ (Ev.or (.mk rfl) (fun hp => Opd.gv rfl hp)) rfl ?_
 refine St.nil (St.then_normal ?_)
 refine St.cond _ rfl (fun h19 => ?_) (fun h19 => ?_)
 ·skip
  try simp only [jbAll] at h19
  have hf : looseF ts.length fs.length (grE g) = (2, -2) := by unfold looseF; rw [if_pos (by omega)]
  refine St.seq (St.rg ?_)
  refine St.ev _ (Ev.call (graphFault_spec 2 (-2)) cb58 (.cons (.mk rfl) (.cons (.mk rfl) .nil))) rfl ?_
  refine St.storeA (Opd.mk rfl) (Opd.mk rfl) sz42 (by first | simp only [List.length_cons, List.length_nil] | rfl) rfl ?_
  refine St.nil (St.then_normal (St.rett (St.then_ret ?_)))
  refine St.rets [_] [] Tryd.results56 ⟨⟨_, _, _, _, rfl, InB.mem, .inl ⟨⟨_, Tryd.underlying42⟩, sz42, rfl⟩⟩, trivial⟩ ?_ (fun _ hw => hw.sub)
  exact congrArg fv hf.symm
 ·skip
  try simp only [jbAll] at h19
  have hf : looseF ts.length fs.length (grE g) = looseFrom ts.length fs.length g.nodes.length 0 (grE g) := by unfold looseF; rw [if_neg (by omega), hgl]
  refine St.skip (St.then_normal (St.seq (St.seq (St.rg ?_))))
  refine St.ev _ (Ev.fldb0 (.mk rfl) fo30_0) rfl ?_
  refine St.ev _ (Ev.ldb (.mk rfl) Tryd.underlying28 trivial (by rfl)) rfl ?_
  refine St.ev _ (Ev.lensl (.mk rfl) Tryd.underlying28) rfl ?_
  refine St.mv ?_
  refine St.nil (St.then_normal (St.block ?_))
  refine St.loopS (ι := Nat) (fun k T => (24, iv k) :: T) (fun k => k ≤ g.nodes.length ∧ looseF ts.length fs.length (grE g) = looseFrom ts.length fs.length g.nodes.length k ((grE g).drop k)) (fun k => g.nodes.length - k) 0 (Keep.cons 2 rfl (Keep.cons 3 rfl (Keep.cons 4 rfl (Keep.cons 22 rfl (Keep.cons 23 rfl Keep.nil))))) ⟨Nat.zero_le _, hf⟩ (by repeat (first | exact Sub.nil | refine Sub.cons (by first | rfl | exact congrArg (fun z => some (iv z)) (by first | omega | (dsimp only; omega)) | exact congrArg (fun z => some (Value.bool z)) (by first | assumption | exact Eq.symm (by assumption))) ?_)) ?_
  intro k hphi
  obtain ⟨hk, hv⟩ := hphi
  refine St.seq (St.rg ?_)
  refine St.ev _ (Ev.lss (.mk rfl) (.mk rfl)) rfl ?_
  refine St.nil (St.then_normal (St.seq ?_))
  refine St.cond _ rfl (fun h25 => ?_) (fun h25 => ?_)
  ·skip
   try simp only [jbAll] at h25
   obtain ⟨t, ht⟩ := some_of_lt (show k < g.nodes.length by omega)
   have htm := List.mem_of_getElem? ht
   refine St.dallAt nodeD g.nodes (x := t) htm ?_
   refine St.mkD (sl linkR t.lv.1 t.links) [nodeD t] (fun ρ h => h _ (List.mem_cons_self ..)) ?_
   refine St.wf t.lv.1 (fun hkw hkl => ?_)
   have hst := loose_drop (nt := ts.length) (nf := fs.length) (nn := g.nodes.length) (grE_at ht)
   rw [← hv] at hst
   refine St.skip (St.then_normal (St.seq (St.block (St.seq (St.rg ?_)))))
   refine St.mv ?_
   refine St.ev _ (Ev.idxaddr (k := k) (.mk rfl) (.mk rfl) Tryd.underlying28 sz116 (by omega) (by omega)) rfl ?_
   refine St.ev _ (Ev.ldA (.mk rfl) ht Tryd.underlying116 trivial sz116 Cel.eq) rfl ?_
   refine St.alloc zc116 rfl (fun b6 => ?_)
   refine St.asg ?_
   refine St.storeA (Opd.mk rfl) (Opd.mk rfl) sz116 (by first | simp only [List.length_cons, List.length_nil] | rfl) (by simp only [List.all_cons, List.all_nil, Bool.and_true, Bool.and_eq_true]; exact ⟨rfl, t.lv.2⟩) ?_
   refine St.nil (St.then_normal (St.seq (St.seq (St.rg ?_))))
   refine St.ev _ (Ev.fldb0 (.mk rfl) fo116_0) rfl ?_
   refine St.ev _ (Ev.ldb (.mk rfl) Tryd.underlying3 trivial (by rfl)) rfl ?_
   refine St.ev _ (Ev.lss (.mk rfl) (.mk rfl)) rfl ?_
   refine St.mv ?_
   refine St.gf _ rfl rfl (fun hg => Ev.fldb0 (.mk rfl) fo116_0) rfl ?_
   refine St.gf _ rfl rfl (fun hg => Ev.ldb (Opd.gv rfl hg) Tryd.underlying3 trivial (by rfl)) rfl ?_
   refine St.gf _ rfl rfl (fun hg => Ev.fldb0 (.mk rfl) fo25_0) rfl ?_
   refine St.gf _ rfl rfl (fun hg => Ev.ldb (Opd.gv rfl hg) Tryd.underlying22 trivial (by rfl)) rfl ?_
   refine St.gf _ rfl rfl (fun hg => Ev.lensl (Opd.gv rfl hg) Tryd.underlying22) rfl ?_
   refine St.gf _ rfl rfl (fun hg => Ev.geq (Opd.gv rfl hg) (Opd.gv rfl hg)) rfl ?_
   refine St.ev _ (Ev.or (.mk rfl) (fun hp => Opd.gv rfl hp)) rfl ?_
   refine St.nil (St.then_normal ?_)
   refine St.cond _ rfl (fun h39 => ?_) (fun h39 => ?_)
   ·skip
    try simp only [jbAll] at h39
    rw [if_pos (show (ndE t).1 < 0 ∨ (ts.length : Int) ≤ (ndE t).1 from (by omega : t.type < 0 ∨ (ts.length : Int) ≤ t.type))] at hst
    refine St.seq (St.rg ?_)
    refine St.mv ?_
    refine St.ev _ (Ev.call (graphFault_spec 3 k) cb58 (.cons (.mk rfl) (.cons (.mk rfl) .nil))) rfl ?_
    refine St.storeA (Opd.mk rfl) (Opd.mk rfl) sz42 (by first | simp only [List.length_cons, List.length_nil] | rfl) rfl ?_
    refine St.nil (St.then_normal (St.rett (St.then_ret (St.in_ret (St.then_ret (St.then_ret (St.in_ret (St.then_ret ?_))))))))
    refine St.rets [_] [] Tryd.results56 ⟨⟨_, _, _, _, rfl, InB.mem, .inl ⟨⟨_, Tryd.underlying42⟩, sz42, rfl⟩⟩, trivial⟩ ?_ (fun _ hw => hw.sub)
    exact congrArg fv hst.symm
   ·skip
    try simp only [jbAll] at h39
    rw [if_neg (show ¬ ((ndE t).1 < 0 ∨ (ts.length : Int) ≤ (ndE t).1) from (by omega : ¬ (t.type < 0 ∨ (ts.length : Int) ≤ t.type)))] at hst
    refine St.skip (St.then_normal (St.seq (St.rg ?_)))
    refine St.asg ?_
    refine St.nil (St.then_normal (St.seq (St.rg ?_)))
    refine St.ev _ (Ev.fldb0 (.mk rfl) fo116_1) rfl ?_
    refine St.ev _ (Ev.ldb (.mk rfl) Tryd.underlying114 trivial (by rfl)) rfl ?_
    refine St.ev _ (Ev.lensl (.mk rfl) Tryd.underlying114) rfl ?_
    refine St.mv ?_
    refine St.nil (St.then_normal (St.block ?_))
    refine St.loopH2 (ι := Nat) (κ := Int) (fun q z T => (45, iv q) :: (7, iv z) :: T) (fun q z => [dat (sl linkR t.lv.1 t.links), blk b4 (.cells [iv 0, iv 0].toArray 42 (0, 0)), blk b2 (.cells [tv.1, xv.1].toArray 25 (0, 0)), blk b3 (.cells [g.nv.1].toArray 30 (0, 0)), dat (sl nodeR g.nv.1 g.nodes), dat (dall nodeD g.nodes), dat (sl tyR tv.1 ts), dat (sl featR xv.1 fs), dat (graphD g)]) (fun q z => q ≤ t.links.length ∧ lkF fs.length g.nodes.length k (-1) (ndE t).2 = lkF fs.length g.nodes.length k z ((t.links.map lkE).drop q)) (fun q z => t.links.length - q) 0 (-1) (Keep.cons 2 rfl (Keep.cons 3 rfl (Keep.cons 4 rfl (Keep.cons 5 rfl (Keep.cons 22 rfl (Keep.cons 23 rfl (Keep.cons 24 rfl (Keep.cons 43 rfl (Keep.cons 44 rfl Keep.nil))))))))) ⟨Nat.zero_le _, rfl⟩ (by repeat (first | exact Sub.nil | refine Sub.cons (by first | rfl | exact congrArg (fun z => some (iv z)) (by first | omega | (dsimp only; omega)) | exact congrArg (fun z => some (Value.bool z)) (by first | assumption | exact Eq.symm (by assumption))) ?_)) (fun _ hw => hw.sub) ?_
    rintro q z ⟨hq, hpv⟩
    refine St.seq (St.rg ?_)
    refine St.ev _ (Ev.lss (.mk rfl) (.mk rfl)) rfl ?_
    refine St.nil (St.then_normal (St.seq ?_))
    refine St.cond _ rfl (fun h46 => ?_) (fun h46 => ?_)
    ·skip
     try simp only [jbAll] at h46
     obtain ⟨p, hp⟩ := some_of_lt (show q < t.links.length by omega)
     have hps := lkF_drop (nf := fs.length) (nn := g.nodes.length) (i := k) (z := z) (l := t.links.map lkE) (q := q) (x := lkE p) (by rw [List.getElem?_map, hp]; rfl)
     refine St.skip (St.then_normal (St.seq (St.block (St.seq (St.rg ?_)))))
     refine St.ev _ (Ev.idxaddr (k := q) (.mk rfl) (.mk rfl) Tryd.underlying114 sz118 (by omega) (by omega)) rfl ?_
     refine St.ev _ (Ev.ldA (.mk rfl) hp Tryd.underlying118 trivial sz118 Cel.eq) rfl ?_
     refine St.alloc zc118 rfl (fun b9 => ?_)
     refine St.storeA (Opd.mk rfl) (Opd.mk rfl) sz118 (by first | simp only [List.length_cons, List.length_nil] | rfl) (by simp only [List.all_cons, List.all_nil, Bool.and_true, Bool.and_eq_true]; exact ⟨rfl, rfl⟩) ?_
     refine St.nil (St.then_normal (St.seq (St.seq (St.rg ?_))))
     refine St.ev _ (Ev.fldb0 (.mk rfl) fo118_0) rfl ?_
     refine St.ev _ (Ev.ldb (.mk rfl) Tryd.underlying3 trivial (by rfl)) rfl ?_
     refine St.ev _ (Ev.lss (.mk rfl) (.mk rfl)) rfl ?_
     refine St.mv ?_
     refine St.gf _ rfl rfl (fun hg => Ev.fldb0 (.mk rfl) fo118_0) rfl ?_
     refine St.gf _ rfl rfl (fun hg => Ev.ldb (Opd.gv rfl hg) Tryd.underlying3 trivial (by rfl)) rfl ?_
     refine St.gf _ rfl rfl (fun hg => Ev.fldb0 (.mk rfl) fo25_1) rfl ?_
     refine St.gf _ rfl rfl (fun hg => Ev.ldb (Opd.gv rfl hg) Tryd.underlying23 trivial (by rfl)) rfl ?_
     refine St.gf _ rfl rfl (fun hg => Ev.lensl (Opd.gv rfl hg) Tryd.underlying23) rfl ?_
     refine St.gf _ rfl rfl (fun hg => Ev.geq (Opd.gv rfl hg) (Opd.gv rfl hg)) rfl ?_
     refine St.ev _ (Ev.or (.mk rfl) (fun hp => Opd.gv rfl hp)) rfl ?_
     refine St.mv ?_
     refine St.gf _ rfl rfl (fun hg => Ev.fldb0 (.mk rfl) fo118_1) rfl ?_
     refine St.gf _ rfl rfl (fun hg => Ev.ldb (Opd.gv rfl hg) Tryd.underlying3 trivial (by rfl)) rfl ?_
     refine St.gf _ rfl rfl (fun hg => Ev.lss (Opd.gv rfl hg) (.mk rfl)) rfl ?_
     refine St.ev _ (Ev.or (.mk rfl) (fun hp => Opd.gv rfl hp)) rfl ?_
     refine St.mv ?_
     refine St.gf _ rfl rfl (fun hg => Ev.fldb0 (.mk rfl) fo118_1) rfl ?_
     refine St.gf _ rfl rfl (fun hg => Ev.ldb (Opd.gv rfl hg) Tryd.underlying3 trivial (by rfl)) rfl ?_
     refine St.gf _ rfl rfl (fun hg => Ev.fldb0 (.mk rfl) fo30_0) rfl ?_
     refine St.gf _ rfl rfl (fun hg => Ev.ldb (Opd.gv rfl hg) Tryd.underlying28 trivial (by rfl)) rfl ?_
     refine St.gf _ rfl rfl (fun hg => Ev.lensl (Opd.gv rfl hg) Tryd.underlying28) rfl ?_
     refine St.gf _ rfl rfl (fun hg => Ev.geq (Opd.gv rfl hg) (Opd.gv rfl hg)) rfl ?_
     refine St.ev _ (Ev.or (.mk rfl) (fun hp => Opd.gv rfl hp)) rfl ?_
     refine St.nil (St.then_normal ?_)
     refine St.cond _ rfl (fun h72 => ?_) (fun h72 => ?_)
     ·skip
      try simp only [jbAll] at h72
      rw [if_pos (show (lkE p).1 < 0 ∨ (fs.length : Int) ≤ (lkE p).1 ∨ (lkE p).2 < 0 ∨ (g.nodes.length : Int) ≤ (lkE p).2 from (by omega : p.feat < 0 ∨ (fs.length : Int) ≤ p.feat ∨ p.to < 0 ∨ (g.nodes.length : Int) ≤ p.to))] at hps
      rw [hpv, hps, if_pos (by show (3 : Int) ≠ 0; decide)] at hst
      refine St.seq (St.rg ?_)
      refine St.mv ?_
      refine St.ev _ (Ev.call (graphFault_spec 3 k) cb58 (.cons (.mk rfl) (.cons (.mk rfl) .nil))) rfl ?_
      refine St.storeA (Opd.mk rfl) (Opd.mk rfl) sz42 (by first | simp only [List.length_cons, List.length_nil] | rfl) rfl ?_
      refine St.nil (St.then_normal (St.rett (St.then_ret (St.in_ret (St.then_ret (St.then_ret (St.in_ret (St.in_ret (St.then_ret (St.then_ret (St.in_ret (St.then_ret ?_))))))))))))
      refine St.rets [_] [] Tryd.results56 ⟨⟨_, _, _, _, rfl, InB.mem, .inl ⟨⟨_, Tryd.underlying42⟩, sz42, rfl⟩⟩, trivial⟩ ?_ (fun _ hw => hw.sub)
      exact congrArg fv hst.symm
     ·skip
      try simp only [jbAll] at h72
      rw [if_neg (show ¬ ((lkE p).1 < 0 ∨ (fs.length : Int) ≤ (lkE p).1 ∨ (lkE p).2 < 0 ∨ (g.nodes.length : Int) ≤ (lkE p).2) from (by omega : ¬ (p.feat < 0 ∨ (fs.length : Int) ≤ p.feat ∨ p.to < 0 ∨ (g.nodes.length : Int) ≤ p.to)))] at hps
      refine St.skip (St.then_normal (St.seq (St.seq (St.rg ?_))))
      refine St.ev _ (Ev.fldb0 (.mk rfl) fo118_0) rfl ?_
      refine St.ev _ (Ev.ldb (.mk rfl) Tryd.underlying3 trivial (by rfl)) rfl ?_
      refine St.mv ?_
      refine St.ev _ (Ev.leq (.mk rfl) (.mk rfl)) rfl ?_
      refine St.nil (St.then_normal ?_)
      refine St.cond _ rfl (fun h78 => ?_) (fun h78 => ?_)
      ·skip
       try simp only [jbAll] at h78
       rw [if_pos (show (lkE p).1 ≤ z from (by omega : p.feat ≤ z))] at hps
       rw [hpv, hps, if_pos (by show (13 : Int) ≠ 0; decide)] at hst
       refine St.seq (St.rg ?_)
       refine St.mv ?_
       refine St.ev _ (Ev.call (graphFault_spec 13 k) cb58 (.cons (.mk rfl) (.cons (.mk rfl) .nil))) rfl ?_
       refine St.storeA (Opd.mk rfl) (Opd.mk rfl) sz42 (by first | simp only [List.length_cons, List.length_nil] | rfl) rfl ?_
       refine St.nil (St.then_normal (St.rett (St.then_ret (St.in_ret (St.then_ret (St.then_ret (St.in_ret (St.in_ret (St.then_ret (St.then_ret (St.in_ret (St.then_ret ?_))))))))))))
       refine St.rets [_] [] Tryd.results56 ⟨⟨_, _, _, _, rfl, InB.mem, .inl ⟨⟨_, Tryd.underlying42⟩, sz42, rfl⟩⟩, trivial⟩ ?_ (fun _ hw => hw.sub)
       exact congrArg fv hst.symm
      ·skip
       try simp only [jbAll] at h78
       rw [if_neg (show ¬ (lkE p).1 ≤ z from (by omega : ¬ p.feat ≤ z))] at hps
       refine St.skip (St.then_normal (St.rg ?_))
       refine St.ev _ (Ev.fldb0 (.mk rfl) fo118_0) rfl ?_
       refine St.ev _ (Ev.ldb (.mk rfl) Tryd.underlying3 trivial (by rfl)) rfl ?_
       refine St.asg ?_
       refine St.nil (St.in_normal (St.then_normal (St.rg ?_)))
       refine St.ev _ (Ev.add (.mk rfl) (.mk rfl) (by omega)) rfl ?_
       refine St.mv ?_
       refine St.nil (St.then_normal ?_)
       refine St.againH2 (q + 1) p.feat ⟨by omega, by rw [hpv, hps]; rfl⟩ (by first | omega | (dsimp only; omega)) (by repeat (first | exact Sub.nil | refine Sub.cons (by first | rfl | exact congrArg (fun z => some (iv z)) (by first | omega | (dsimp only; omega)) | exact congrArg (fun z => some (Value.bool z)) (by first | assumption | exact Eq.symm (by assumption))) ?_)) (fun _ hw => hw.sub)
    ·skip
     try simp only [jbAll] at h46
     rw [lkF_end (by rw [List.length_map]; omega)] at hpv
     rw [if_neg (by rw [hpv]; decide)] at hst
     refine St.exit (St.then_exit (St.then_exit (St.in_hit (St.in_normal (St.then_normal (St.rg ?_))))))
     refine St.ev _ (Ev.add (.mk rfl) (.mk rfl) (by omega)) rfl ?_
     refine St.mv ?_
     refine St.nil (St.then_normal ?_)
     refine St.againS (k + 1) ⟨by omega, by rw [hst]⟩ (by first | omega | (dsimp only; omega)) (by repeat (first | exact Sub.nil | refine Sub.cons (by first | rfl | exact congrArg (fun z => some (iv z)) (by first | omega | (dsimp only; omega)) | exact congrArg (fun z => some (Value.bool z)) (by first | assumption | exact Eq.symm (by assumption))) ?_)) (fun _ hw => hw.sub)
  ·skip
   try simp only [jbAll] at h25
   rw [loose_end (by omega)] at hv
   refine St.exit (St.then_exit (St.then_exit (St.in_hit (St.then_normal (St.seq (St.rg ?_))))))
   refine St.ev _ (Ev.build (ps := []) (Opds.nil) (fun w => bld42_  w)) rfl ?_
   refine St.storeA (Opd.mk rfl) (Opd.mk rfl) sz42 (by first | simp only [List.length_cons, List.length_nil] | rfl) rfl ?_
   refine St.nil (St.then_normal (St.rett ?_))
   refine St.rets [_] [] Tryd.results56 ⟨⟨_, _, _, _, rfl, InB.mem, .inl ⟨⟨_, Tryd.underlying42⟩, sz42, rfl⟩⟩, trivial⟩ ?_ (fun _ hw => hw.sub)
   exact congrArg fv hv.symm
theorem idxF_drop {M : List Bool} {k : Nat} {b : Bool} (h : M[k]? = some b) : idxF (M.drop k) = if b = false then 0 else if idxF (M.drop (k + 1)) < 0 then -1 else idxF (M.drop (k + 1)) + 1 := by rw [drop_of_some h, idxF]
theorem idxF_end {M : List Bool} {k : Nat} (h : M.length ≤ k) : idxF (M.drop k) = -1 := by rw [List.drop_of_length_le h, idxF]
def idxSo (M : List Bool) (k : Nat) : Prop := idxF M = if idxF (M.drop k) < 0 then -1 else idxF (M.drop k) + k
theorem idxSo.nil (M : List Bool) : idxSo M 0 := by
 unfold idxSo
 rw [List.drop_zero]
 have : ∀ M : List Bool, idxF M = -1 ∨ 0 ≤ idxF M := by
  intro M
  induction M with
  | nil => left; rfl
  | cons b M ih =>
   rw [idxF]
   split
   ·right; decide
   ·split
    ·left; rfl
    ·right; omega
 rcases this M with h | h
 ·rw [h]; rfl
 ·rw [if_neg (by omega)]; omega
theorem idxSo.step {M : List Bool} {k : Nat} (h : idxSo M k) (hb : M[k]? = some true) : idxSo M (k + 1) := by
 unfold idxSo at h ⊢
 have e1 := idxF_drop hb
 rw [if_neg (show ¬ (true = false) by decide)] at e1
 by_cases e : idxF (M.drop (k + 1)) < 0
 ·rw [if_pos e] at e1 ⊢
  rw [h, e1]; rfl
 ·rw [if_neg e] at e1 ⊢
  rw [h, e1, if_neg (by omega)]; omega
theorem idxSo.hit {M : List Bool} {k : Nat} (h : idxSo M k) (hb : M[k]? = some false) : idxF M = k := by
 unfold idxSo at h
 have e1 := idxF_drop hb
 rw [if_pos rfl] at e1
 rw [h, e1, if_neg (by decide)]; omega
theorem idxSo.fin {M : List Bool} {k : Nat} (h : idxSo M k) (hb : M.length ≤ k) : idxF M = -1 := by
 unfold idxSo at h
 rw [h, idxF_end hb]; rfl
def boolR : Rp Bool := ⟨1, by decide, fun a => [.bool a], fun _ => True, fun _ => rfl, fun x u h => by rw [List.mem_singleton.1 h]; rfl⟩
theorem rows_boolR (U : List Bool) : rows boolR U = U.map fun a => Value.bool a := by
 show U.flatMap (fun a => [Value.bool a]) = _
 induction U with
 | nil => rfl
 | cons a U ih => rw [List.flatMap_cons, ih]; rfl
theorem rowB_get {U : List Bool} {k : Nat} {a : Bool} (h : U[k]? = some a) : (rows boolR U)[k * 1 + 0]? = some (.bool a) := by
 rw [rows_boolR, Nat.mul_one, Nat.add_zero, List.getElem?_map, h]; rfl
theorem rowB_set {U : List Bool} {k : Nat} {a : Bool} : (rows boolR U).set (k * 1 + 0) (.bool a) = rows boolR (U.set k a) := by
 rw [rows_boolR, rows_boolR, Nat.mul_one, Nat.add_zero, List.map_set]
theorem rowB_rep (n : Nat) : List.replicate n (Value.bool false) = rows boolR (List.replicate n false) := by rw [rows_boolR, List.map_replicate]
theorem Index_spec (u : Value) (M : List Bool) : FnV Tryd.prog 72 #[u, .bool false] [sl boolR u M] (iv (idxF M)) := by
 refine FnV.body1 (args := [u, .bool false]) 19 Tryd.func72 rfl Tryd.ntmps72 rfl (fun c => ?_)
 refine St.seq ?_
 refine St.wf u (fun huw hul => ?_)
 refine St.rg ?_
 refine St.asg ?_
 refine St.nil (St.then_normal (St.seq (St.seq (St.rg ?_))))
 refine St.mv ?_
 refine St.ev _ (Ev.lensl (.mk rfl) Tryd.underlying147) rfl ?_
 refine St.mv ?_
 refine St.nil (St.then_normal (St.block ?_))
 refine St.loopS (ι := Nat) (fun k T => (8, iv k) :: T) (fun k => k ≤ M.length ∧ idxSo M k) (fun k => M.length - k) 0 (Keep.cons 0 rfl (Keep.cons 1 rfl (Keep.cons 7 rfl Keep.nil))) ⟨Nat.zero_le _, idxSo.nil M⟩ (by repeat (first | exact Sub.nil | refine Sub.cons (by first | rfl | exact congrArg (fun z => some (iv z)) (by first | omega | (dsimp only; omega)) | exact congrArg (fun z => some (Value.bool z)) (by first | assumption | exact Eq.symm (by assumption))) ?_)) ?_
 intro k hphi
 obtain ⟨hk, hso⟩ := hphi
 refine St.seq (St.rg ?_)
 refine St.ev _ (Ev.lss (.mk rfl) (.mk rfl)) rfl ?_
 refine St.nil (St.then_normal (St.seq ?_))
 refine St.cond _ rfl (fun h9 => ?_) (fun h9 => ?_)
 ·skip
  try simp only [jbAll] at h9
  obtain ⟨b, hb⟩ := some_of_lt (show k < M.length by omega)
  refine St.skip (St.then_normal (St.seq (St.block (St.seq (St.rg ?_)))))
  refine St.mv ?_
  refine St.asg ?_
  refine St.nil (St.then_normal (St.seq (St.rg ?_)))
  refine St.mv ?_
  refine St.mv ?_
  refine St.mv ?_
  refine St.ev _ (Ev.idxaddr (k := k) (.mk rfl) (.mk rfl) Tryd.underlying147 sz4 (by omega) (by omega)) rfl ?_
  refine St.ev _ (Ev.ld1 (.mk rfl) hb Tryd.underlying4 trivial rfl) rfl ?_
  refine St.ev _ (Ev.booleql (.mk rfl) (.mk rfl) Tryd.underlying4) rfl ?_
  refine St.nil (St.then_normal ?_)
  refine St.cond _ rfl (fun h16 => ?_) (fun h16 => ?_)
  ·skip
   skip
   have hbf : M[k]? = some false := by rw [hb]; cases b; rfl; cases h16
   refine St.seq (St.rg ?_)
   refine St.mv ?_
   refine St.asg ?_
   refine St.nil (St.then_normal (St.rett (St.in_ret (St.then_ret (St.then_ret (St.in_ret (St.then_ret ?_)))))))
   refine St.rets [_] [] Tryd.results72 ⟨rfl, trivial⟩ ?_ (fun _ hw => hw.sub)
   exact congrArg iv (hso.hit hbf).symm
  ·skip
   skip
   have hbt : M[k]? = some true := by rw [hb]; cases b; cases h16; rfl
   refine St.skip (St.in_normal (St.then_normal (St.rg ?_)))
   refine St.ev _ (Ev.add (.mk rfl) (.mk rfl) (by omega)) rfl ?_
   refine St.mv ?_
   refine St.nil (St.then_normal ?_)
   refine St.againS (k + 1) ⟨by omega, hso.step hbt⟩ (by first | omega | (dsimp only; omega)) (by repeat (first | exact Sub.nil | refine Sub.cons (by first | rfl | exact congrArg (fun z => some (iv z)) (by first | omega | (dsimp only; omega)) | exact congrArg (fun z => some (Value.bool z)) (by first | assumption | exact Eq.symm (by assumption))) ?_)) (fun _ hw => hw.sub)
 ·skip
  try simp only [jbAll] at h9
  refine St.exit (St.then_exit (St.then_exit (St.in_hit (St.then_normal (St.seq (St.rg ?_))))))
  refine St.asg ?_
  refine St.nil (St.then_normal (St.rett ?_))
  refine St.rets [_] [] Tryd.results72 ⟨rfl, trivial⟩ ?_ (fun _ hw => hw.sub)
  exact congrArg iv (hso.fin (by omega)).symm
end Go.Proofs.YtolmidffiegkaaaDoor

/-
  (YtolmidffiegkaaaDoorQ16)
  The walk of the search in a graph.
  Conditions: none beyond the sizes.
-/
set_option maxRecDepth 20000
set_option linter.unusedSimpArgs false
set_option linter.unusedVariables false
namespace Go.Proofs.YtolmidffiegkaaaDoor
open Go Go.J
abbrev intsN (l : List Nat) : List Int := l.map fun i : Nat => (i : Int)
theorem rows_int (U : List Int) : rows intR U = U.map fun a => iv a := by
 show U.flatMap (fun a => [iv a]) = _
 induction U with
 | nil => rfl
 | cons a U ih => rw [List.flatMap_cons, ih]; rfl
theorem rowN_last {l : List Nat} {i : Nat} : (rows intR (intsN (l ++ [i])))[l.length * 1 + 0]? = some (iv (i : Nat)) := by
 rw [rows_int, Nat.mul_one, Nat.add_zero, intsN, List.map_map, List.getElem?_map, List.getElem?_append_right (Nat.le_refl _), Nat.sub_self]; rfl
theorem rowN_cut {l : List Nat} {i : Nat} : (rows intR (intsN (l ++ [i]))).take (l.length * 1) = rows intR (intsN l) := by
 rw [rows_int, rows_int, Nat.mul_one, intsN, intsN, List.map_append, List.map_append]
 exact List.take_left' (by simp)
theorem rowN_snoc {l : List Nat} {p : Int} (h : 0 ≤ p) : rows intR (intsN l) ++ [iv p] = rows intR (intsN (l ++ [p.toNat])) := by
 rw [rows_int, rows_int, intsN, intsN, List.map_append, List.map_append, List.map_cons, List.map_nil, List.map_cons, List.map_nil, Int.toNat_of_nonneg h]
theorem snoc_of {α : Type} {l : List α} (h : 0 < l.length) : ∃ m x, l = m ++ [x] := by
 rcases List.eq_nil_or_concat l with rfl | ⟨m, x, rfl⟩
 ·simp at h
 ·exact ⟨m, x, by rw [List.concat_eq_append]⟩
set_option maxHeartbeats 2000000 in
theorem Unreached_spec (g : GraphD) (hg : LkOK (grE g)) (hn : g.nodes.length ≤ 60) : FnV Tryd.prog 59 #[graphV g] [graphD g] (iv (unr (grE g))) := by
 refine FnV.body1 (args := [graphV g]) 58 Tryd.func59 rfl Tryd.ntmps59 rfl (fun c => ?_)
 refine St.seq ?_
 refine St.openD (graphD g) (fun _ : Unit => graphL g) (fun ρ h => ⟨(), h⟩) fun _ => ?_
 refine St.cast (H' := [dat (sl nodeR g.nv.1 g.nodes), dat (dall nodeD g.nodes), dat (graphD g)]) rfl ?_
 have hgl := grE_len g
 have hpos : 0 < g.nodes.length := by have := hg.1; omega
 refine St.rg ?_
 refine St.boxA (.mk rfl) rfl (fun b1 => ?_)
 refine St.asg ?_
 refine St.nil (St.then_normal (St.seq (St.rg ?_)))
 refine St.ev _ (Ev.fldb0 (.mk rfl) fo30_0) rfl ?_
 refine St.ev _ (Ev.ldb (.mk rfl) Tryd.underlying28 trivial (by rfl)) rfl ?_
 refine St.ev _ (Ev.lensl (.mk rfl) Tryd.underlying28) rfl ?_
 refine St.makeSl (m := g.nodes.length) (.mk rfl) (.mk rfl) Tryd.underlying147 sz4 zv4 by4 rfl rfl (by omega) rfl rfl (fun b11 => ?_)
 refine St.rowEqN (.slice (some ⟨b11, 0, none⟩) g.nodes.length g.nodes.length) rfl (rowB_rep _) ?_
 refine St.asg ?_
 refine St.nil (St.then_normal (St.seq (St.rg ?_)))
 refine St.mv ?_
 refine St.ev _ (Ev.idxaddrrow (k := 0) (.mk rfl) (.mk rfl) Tryd.underlying147 sz4 (by omega) (by omega)) rfl ?_
 refine St.storerow (.mk rfl) (.mk rfl) sz4 rfl (by omega) (by decide) ?_
 refine St.rowEqN (.slice (some ⟨b11, 0, none⟩) g.nodes.length g.nodes.length) rfl rowB_set ?_
 refine St.nil (St.then_normal (St.seq (St.seq (St.rg ?_))))
 refine St.bsl rfl (.cons (.mk rfl) .nil) Tryd.underlying57 sz3 zv3 rfl rfl (by simp [Value.cells]) rfl rfl (fun b14 => ?_)
 refine St.rowEqN (.slice (some ⟨b14, 0, none⟩) 1 1) (show _ = ([0] : List Nat).length from rfl) (show _ = rows intR (intsN [0]) from rfl) ?_
 refine St.asg ?_
 refine St.nil (St.then_normal (St.block ?_))
 refine St.loopH2 (ι := Unit) (κ := Value × List Nat × List Bool) (fun u z T => (4, z.1) :: T) (fun u z => [row (.slice (some ⟨b11, 0, none⟩) g.nodes.length g.nodes.length) 4 1 g.nodes.length (rows boolR z.2.2), row z.1 3 1 (z.2.1).length (rows intR (intsN (z.2.1))), blk b1 (.cells [g.nv.1].toArray 30 (0, 0)), dat (sl nodeR g.nv.1 g.nodes), dat (dall nodeD g.nodes)]) (fun u z => Dfs (grE g) z.2.2 z.2.1 ∧ g.nodes.length - cntM z.2.2 + z.2.1.length ≤ g.nodes.length + 1) (fun u z => g.nodes.length - cntM z.2.2 + z.2.1.length) () ((.slice (some ⟨b14, 0, none⟩) 1 1), [0], (List.replicate g.nodes.length false).set 0 true) (Keep.cons 1 rfl (Keep.cons 2 rfl (Keep.cons 3 rfl Keep.nil))) ⟨by have := Dfs.start hg.1; rw [hgl] at this; exact this, by show _ - _ + 1 ≤ _; omega⟩ (by repeat (first | exact Sub.nil | refine Sub.cons (by first | rfl | exact congrArg (fun z => some (iv z)) (by first | omega | (dsimp only; omega)) | exact congrArg (fun z => some (Value.bool z)) (by first | assumption | exact Eq.symm (by assumption))) ?_)) (fun _ hw => hw.sub) ?_
 rintro u ⟨vz, st, M⟩ ⟨hd, hmu⟩
 dsimp only at hd hmu ⊢
 have hML := hd.len
 refine St.seq (St.seq (St.rg ?_))
 refine St.mv ?_
 refine St.ev _ (Ev.lenrow (.mk rfl) Tryd.underlying57) rfl ?_
 refine St.ev _ (Ev.gtr (.mk rfl) (.mk rfl)) rfl ?_
 refine St.nil (St.then_normal ?_)
 refine St.cond _ rfl (fun h17 => ?_) (fun h17 => ?_)
 ·skip
  try simp only [jbAll] at h17
  obtain ⟨s0, i, rfl⟩ := snoc_of (show 0 < st.length by omega)
  have hsl : (s0 ++ [i]).length = s0.length + 1 := by rw [List.length_append]; rfl
  have hiM := lt_of_some (hd.stk i (by simp))
  obtain ⟨t, ht⟩ := some_of_lt (show i < g.nodes.length by omega)
  have htm := List.mem_of_getElem? ht
  have hnd : (grE g).getD i nd0 = ndE t := by rw [List.getD_eq_getElem?_getD, grE_at ht]; rfl
  have hp0 := hd.pop
  refine St.dallAt nodeD g.nodes (x := t) htm ?_
  refine St.mkD (sl linkR t.lv.1 t.links) [nodeD t] (fun ρ h => h _ (List.mem_cons_self ..)) ?_
  refine St.wf t.lv.1 (fun hkw hkl => ?_)
  refine St.skip (St.then_normal (St.block (St.seq (St.rg ?_))))
  refine St.mv ?_
  refine St.mv ?_
  refine St.ev _ (Ev.lenrow (.mk rfl) Tryd.underlying57) rfl ?_
  refine St.ev _ (Ev.sub (.mk rfl) (.mk rfl) (by omega)) rfl ?_
  refine St.ev _ (Ev.idxaddrrow (k := s0.length) (.mk rfl) (.mk rfl) Tryd.underlying57 sz3 (by omega) (by omega)) rfl ?_
  refine St.ev _ (Ev.ldrow (.mk rfl) Tryd.underlying3 trivial (by omega) rowN_last) rfl ?_
  refine St.asg ?_
  refine St.nil (St.then_normal (St.seq (St.rg ?_)))
  refine St.mv ?_
  refine St.mv ?_
  refine St.ev _ (Ev.lenrow (.mk rfl) Tryd.underlying57) rfl ?_
  refine St.ev _ (Ev.sub (.mk rfl) (.mk rfl) (by omega)) rfl ?_
  refine St.ev _ (Ev.slicerow_h (h := s0.length) (.mk rfl) (.mk rfl) Tryd.underlying57 sz3 (by omega) (by omega)) rfl ?_
  refine St.rowCut vz s0.length (by omega) ?_
  refine St.rowEqN (slv vz 1 0 s0.length) rfl rowN_cut ?_
  refine St.asg ?_
  refine St.nil (St.then_normal (St.seq (St.rg ?_)))
  refine St.ev _ (Ev.fldb0 (.mk rfl) fo30_0) rfl ?_
  refine St.ev _ (Ev.ldb (.mk rfl) Tryd.underlying28 trivial (by rfl)) rfl ?_
  refine St.mv ?_
  refine St.ev _ (Ev.idxaddr (k := i) (.mk rfl) (.mk rfl) Tryd.underlying28 sz116 (by omega) (by omega)) rfl ?_
  refine St.ev _ (Ev.fldel (.mk rfl) (by omega) fo116_1) rfl ?_
  refine St.ev _ (Ev.ld1 (.mk rfl) ht Tryd.underlying114 trivial rfl) rfl ?_
  refine St.ev _ (Ev.lensl (.mk rfl) Tryd.underlying114) rfl ?_
  refine St.mv ?_
  refine St.nil (St.then_normal (St.block ?_))
  refine St.loopH2 (ι := Nat) (κ := Value × List Nat × List Bool) (fun q z T => (36, iv q) :: (4, z.1) :: T) (fun q z => [row (.slice (some ⟨b11, 0, none⟩) g.nodes.length g.nodes.length) 4 1 g.nodes.length (rows boolR z.2.2), row z.1 3 1 (z.2.1).length (rows intR (intsN (z.2.1))), blk b1 (.cells [g.nv.1].toArray 30 (0, 0)), dat (sl linkR t.lv.1 t.links), dat (sl nodeR g.nv.1 g.nodes), dat (dall nodeD g.nodes)]) (fun q z => q ≤ t.links.length ∧ DfsIn (grE g) i q z.2.2 z.2.1 ∧ g.nodes.length - cntM z.2.2 + z.2.1.length = g.nodes.length - cntM M + s0.length) (fun q z => t.links.length - q) 0 (slv vz 1 0 s0.length, s0, M) (Keep.cons 1 rfl (Keep.cons 2 rfl (Keep.cons 3 rfl (Keep.cons 34 rfl (Keep.cons 35 rfl Keep.nil))))) ⟨Nat.zero_le _, hp0, rfl⟩ (by repeat (first | exact Sub.nil | refine Sub.cons (by first | rfl | exact congrArg (fun z => some (iv z)) (by first | omega | (dsimp only; omega)) | exact congrArg (fun z => some (Value.bool z)) (by first | assumption | exact Eq.symm (by assumption))) ?_)) (fun _ hw => hw.sub) ?_
  rintro q ⟨wz, sw, W⟩ ⟨hq, hin, hm2⟩
  dsimp only at hin hm2 ⊢
  have hWL := hin.len
  have hWm := cnt_max W
  refine St.seq (St.rg ?_)
  refine St.ev _ (Ev.lss (.mk rfl) (.mk rfl)) rfl ?_
  refine St.nil (St.then_normal (St.seq ?_))
  refine St.cond _ rfl (fun h37 => ?_) (fun h37 => ?_)
  ·skip
   try simp only [jbAll] at h37
   obtain ⟨p, hp⟩ := some_of_lt (show q < t.links.length by omega)
   have hlk : ((grE g).getD i nd0).2[q]? = some (lkE p) := by rw [hnd]; show (t.links.map lkE)[q]? = _; rw [List.getElem?_map, hp]; rfl
   obtain ⟨_, hp2, hp3⟩ := hg.at_ (List.mem_of_getElem? hlk)
   replace hp2 : 0 ≤ p.to := hp2
   replace hp3 : p.to.toNat < (grE g).length := hp3
   obtain ⟨b, hb⟩ := some_of_lt (show p.to.toNat < W.length by omega)
   refine St.skip (St.then_normal (St.seq (St.block (St.seq (St.rg ?_)))))
   refine St.ev _ (Ev.idxaddr (k := q) (.mk rfl) (.mk rfl) Tryd.underlying114 sz118 (by omega) (by omega)) rfl ?_
   refine St.ev _ (Ev.ldA (.mk rfl) hp Tryd.underlying118 trivial sz118 Cel.eq) rfl ?_
   refine St.alloc zc118 rfl (fun b7 => ?_)
   refine St.storeA (Opd.mk rfl) (Opd.mk rfl) sz118 (by first | simp only [List.length_cons, List.length_nil] | rfl) (by simp only [List.all_cons, List.all_nil, Bool.and_true, Bool.and_eq_true]; exact ⟨rfl, rfl⟩) ?_
   refine St.nil (St.then_normal (St.seq (St.rg ?_)))
   refine St.mv ?_
   refine St.ev _ (Ev.fldb0 (.mk rfl) fo118_1) rfl ?_
   refine St.ev _ (Ev.ldb (.mk rfl) Tryd.underlying3 trivial (by rfl)) rfl ?_
   refine St.ev _ (Ev.idxaddrrow (k := p.to.toNat) (.mk rfl) (.mk rfl) Tryd.underlying147 sz4 (by omega) (by omega)) rfl ?_
   refine St.ev _ (Ev.ldrow (.mk rfl) Tryd.underlying4 trivial (by omega) (rowB_get hb)) rfl ?_
   refine St.ev _ (Ev.not (.mk rfl)) rfl ?_
   refine St.nil (St.then_normal ?_)
   refine St.cond _ rfl (fun h45 => ?_) (fun h45 => ?_)
   ·skip
    skip
    have hbf : W[p.to.toNat]? = some false := by rw [hb]; cases b; rfl; cases h45
    have hcn := cnt_new hbf
    have hcm := cnt_max (W.set p.to.toNat true)
    rw [List.length_set] at hcm
    have hnew := hin.new hg hlk
    refine St.seq (St.rg ?_)
    refine St.mv ?_
    refine St.ev _ (Ev.fldb0 (.mk rfl) fo118_1) rfl ?_
    refine St.ev _ (Ev.ldb (.mk rfl) Tryd.underlying3 trivial (by rfl)) rfl ?_
    refine St.ev _ (Ev.idxaddrrow (k := p.to.toNat) (.mk rfl) (.mk rfl) Tryd.underlying147 sz4 (by omega) (by omega)) rfl ?_
    refine St.storerow (.mk rfl) (.mk rfl) sz4 rfl (by omega) (by decide) ?_
    refine St.rowEqN (.slice (some ⟨b11, 0, none⟩) g.nodes.length g.nodes.length) rfl rowB_set ?_
    refine St.nil (St.then_normal (St.rg ?_))
    refine St.mv ?_
    refine St.ev _ (Ev.fldb0 (.mk rfl) fo118_1) rfl ?_
    refine St.ev _ (Ev.ldb (.mk rfl) Tryd.underlying3 trivial (by rfl)) rfl ?_
    refine St.bsl rfl (.cons (.mk rfl) .nil) Tryd.underlying57 sz3 zv3 rfl rfl (by simp [Value.cells]) rfl rfl (fun b53 => ?_)
    refine St.appendRow (.mk rfl) (.mk rfl) Tryd.underlying57 sz3 zv3 by3 (by simp [Value.oneCell', Value.cells]) (by omega) (by omega) rfl rfl rfl rfl (fun v54 hv54 => ?_)
    refine St.rowEqN v54 (show _ = (sw ++ [p.to.toNat]).length from len_snoc) (show _ = rows intR (intsN (sw ++ [p.to.toNat])) from rowN_snoc hp2) ?_
    refine St.asg ?_
    refine St.nil (St.in_normal (St.then_normal (St.rg ?_)))
    refine St.ev _ (Ev.add (.mk rfl) (.mk rfl) (by omega)) rfl ?_
    refine St.mv ?_
    refine St.nil (St.then_normal ?_)
    refine St.againH2 (q + 1) (v54, sw ++ [p.to.toNat], W.set p.to.toNat true) ⟨by omega, hnew, by rw [hcn, List.length_append]; simp only [List.length_cons, List.length_nil]; omega⟩ (by first | omega | (dsimp only; omega)) (by repeat (first | exact Sub.nil | refine Sub.cons (by first | rfl | exact congrArg (fun z => some (iv z)) (by first | omega | (dsimp only; omega)) | exact congrArg (fun z => some (Value.bool z)) (by first | assumption | exact Eq.symm (by assumption))) ?_)) (fun _ hw => hw.sub)
   ·skip
    skip
    have hbt : W[p.to.toNat]? = some true := by rw [hb]; cases b; cases h45; rfl
    have hold := hin.old hlk hbt
    refine St.skip (St.in_normal (St.then_normal (St.rg ?_)))
    refine St.ev _ (Ev.add (.mk rfl) (.mk rfl) (by omega)) rfl ?_
    refine St.mv ?_
    refine St.nil (St.then_normal ?_)
    refine St.againH2 (q + 1) (wz, sw, W) ⟨by omega, hold, hm2⟩ (by first | omega | (dsimp only; omega)) (by repeat (first | exact Sub.nil | refine Sub.cons (by first | rfl | exact congrArg (fun z => some (iv z)) (by first | omega | (dsimp only; omega)) | exact congrArg (fun z => some (Value.bool z)) (by first | assumption | exact Eq.symm (by assumption))) ?_)) (fun _ hw => hw.sub)
  ·skip
   try simp only [jbAll] at h37
   obtain rfl : q = t.links.length := by omega
   refine St.exit (St.then_exit (St.then_exit (St.in_hit (St.in_normal (St.then_normal ?_)))))
   rw [show t.links.length = ((grE g).getD i nd0).2.length by rw [hnd]; exact (List.length_map _).symm] at hin
   refine St.againH2 () (wz, sw, W) ⟨hin.done, by dsimp only; omega⟩ (by dsimp only; rw [List.length_append]; simp only [List.length_cons, List.length_nil]; omega) (by repeat (first | exact Sub.nil | refine Sub.cons (by first | rfl | exact congrArg (fun z => some (iv z)) (by first | omega | (dsimp only; omega)) | exact congrArg (fun z => some (Value.bool z)) (by first | assumption | exact Eq.symm (by assumption))) ?_)) (fun _ hw => hw.sub)
 ·skip
  try simp only [jbAll] at h17
  obtain rfl : st = [] := List.eq_nil_of_length_eq_zero (by omega)
  have hfin := hd.fin hg
  refine St.publish (.slice (some ⟨b11, 0, none⟩) g.nodes.length g.nodes.length) boolR M rfl (by omega) (fun _ _ => trivial) ?_
  refine St.exit (St.then_exit (St.then_exit (St.in_hit (St.then_normal (St.seq (St.rg ?_))))))
  refine St.mv ?_
  refine St.ev _ (Ev.call (Index_spec (.slice (some ⟨b11, 0, none⟩) g.nodes.length g.nodes.length) M) cb72 (.cons (.mk rfl) (.cons (.mk rfl) .nil))) rfl ?_
  refine St.asg ?_
  refine St.nil (St.then_normal (St.rett ?_))
  refine St.rets [_] [] Tryd.results59 ⟨rfl, trivial⟩ ?_ (fun _ hw => hw.sub)
  exact congrArg iv (by rw [hfin]; rfl)
end Go.Proofs.YtolmidffiegkaaaDoor

/-
  (YtolmidffiegkaaaDoorQ17)
  The walk of the check of graphs within a hierarchy.
  Conditions: none beyond the sizes.
-/
set_option maxRecDepth 20000
set_option linter.unusedSimpArgs false
set_option linter.unusedVariables false
namespace Go.Proofs.YtolmidffiegkaaaDoor
open Go Go.J
theorem lkF_ok {nf nn i : Int} : ∀ {l : List (Int × Int)} {z : Int}, (lkF nf nn i z l).1 = 0 → ∀ x ∈ l, 0 ≤ x.1 ∧ x.1 < nf ∧ 0 ≤ x.2 ∧ x.2 < nn
 | [], _, _ => fun x hx => by cases hx
 | y :: l, z, h => by
  rw [lkF] at h
  by_cases h1 : y.1 < 0 ∨ nf ≤ y.1 ∨ y.2 < 0 ∨ nn ≤ y.2
  ·rw [if_pos h1] at h; exact absurd h (by simp)
  rw [if_neg h1] at h
  by_cases h2 : y.1 ≤ z
  ·rw [if_pos h2] at h; exact absurd h (by simp)
  rw [if_neg h2] at h
  intro x hx
  rcases List.mem_cons.1 hx with rfl | hx
  ·omega
  ·exact lkF_ok h x hx
theorem looseFrom_ok {nt nf nn : Int} : ∀ {l : Gr0} {i : Nat}, (looseFrom nt nf nn i l).1 = 0 → ∀ n ∈ l, (0 ≤ n.1 ∧ n.1 < nt) ∧ ∀ x ∈ n.2, 0 ≤ x.1 ∧ x.1 < nf ∧ 0 ≤ x.2 ∧ x.2 < nn
 | [], _, _ => fun x hx => by cases hx
 | y :: l, i, h => by
  rw [looseFrom] at h
  by_cases h1 : y.1 < 0 ∨ nt ≤ y.1
  ·rw [if_pos h1] at h; exact absurd h (by simp)
  rw [if_neg h1] at h
  by_cases h2 : (lkF nf nn i (-1) y.2).1 ≠ 0
  ·rw [if_pos h2] at h; exact absurd h h2
  rw [if_neg h2] at h
  intro x hx
  rcases List.mem_cons.1 hx with rfl | hx
  ·exact ⟨by omega, lkF_ok (Decidable.not_not.1 h2)⟩
  ·exact looseFrom_ok h x hx
theorem loose_ok {nt nf : Int} {g : Gr0} (h : (looseF nt nf g).1 = 0) : 0 < g.length ∧ g.length ≤ 60 ∧ ∀ n ∈ g, (0 ≤ n.1 ∧ n.1 < nt) ∧ ∀ x ∈ n.2, 0 ≤ x.1 ∧ x.1 < nf ∧ 0 ≤ x.2 ∧ x.2 < g.length := by
 unfold looseF at h
 by_cases h1 : g.length = 0 ∨ 60 < g.length
 ·rw [if_pos h1] at h; exact absurd h (by simp)
 rw [if_neg h1] at h
 exact ⟨by omega, by omega, looseFrom_ok h⟩
theorem loose_lk {nt nf : Int} {g : Gr0} (h : (looseF nt nf g).1 = 0) : LkOK g := by
 obtain ⟨h1, _, h3⟩ := loose_ok h
 exact ⟨h1, fun n hn x hx => by have := (h3 n hn).2 x hx; omega⟩
theorem Sub_specI (w1 w2 : OneV) (T : List Ty0) (hT : TyOK T) (i j : Int) (hi : 0 ≤ i ∧ i.toNat < T.length) (hj : 0 ≤ j ∧ j.toNat < T.length) : FnV Tryd.prog 57 #[tabV w1 w2, iv i, iv j] [sl u64R w1.1 (upsL T), sl u64R w2.1 (dnsL T)] (.bool (subT T i.toNat j.toNat)) := by
 have := Sub_spec w1 w2 T hT i.toNat j.toNat hi.2 hj.2
 rw [Int.toNat_of_nonneg hi.1, Int.toNat_of_nonneg hj.1] at this
 exact this
theorem first_at {T : List Ty0} {Fs : List Ft0} {G : Gr0} {k : Nat} (hk : k < G.length) (h : badNd T Fs G k = true) (hb : ∀ i, i < k → badNd T Fs G i = false) : firstBad T Fs G = some k := by
 unfold firstBad; rw [List.find?_range_eq_some]
 exact ⟨h, List.mem_range.2 hk, fun j hj => by rw [hb j hj]; rfl⟩
theorem first_no {T : List Ty0} {Fs : List Ft0} {G : Gr0} (hb : ∀ i, i < G.length → badNd T Fs G i = false) : firstBad T Fs G = none := by
 unfold firstBad; rw [List.find?_eq_none]
 intro b h; rw [hb b (List.mem_range.1 h)]; decide
theorem withinF_l {T : List Ty0} {Fs : List Ft0} {G : Gr0} (h : (looseF T.length Fs.length G).1 ≠ 0) : withinF T Fs G = looseF T.length Fs.length G := by unfold withinF; rw [if_pos h]
theorem withinF_b {T : List Ty0} {Fs : List Ft0} {G : Gr0} {i : Nat} (h : ¬ (looseF T.length Fs.length G).1 ≠ 0) (h2 : firstBad T Fs G = some i) : withinF T Fs G = (12, (i : Int)) := by unfold withinF; rw [if_neg h, h2]
theorem withinF_u {T : List Ty0} {Fs : List Ft0} {G : Gr0} (h : ¬ (looseF T.length Fs.length G).1 ≠ 0) (h2 : firstBad T Fs G = none) : withinF T Fs G = if 0 ≤ unr G then (5, unr G) else (0, 0) := by unfold withinF; rw [if_neg h, h2]
set_option maxHeartbeats 2000000 in
theorem Within_spec (tv xv w1 w2 : OneV) (ts : List TyD) (fs : List FeatD) (g : GraphD) (hT : TyOK (ts.map tyE)) (hF : ∀ f ∈ fs, 0 ≤ f.of_ ∧ f.of_ < ts.length ∧ 0 ≤ f.value ∧ f.value < ts.length) : FnV Tryd.prog 43 #[.agg #[tv.1, xv.1], tabV w1 w2, graphV g] [sl tyR tv.1 ts, sl featR xv.1 fs, sl u64R w1.1 (upsL (ts.map tyE)), sl u64R w2.1 (dnsL (ts.map tyE)), graphD g] (fv (withinF (ts.map tyE) (fs.map ftE) (grE g))) := by
 refine FnV.body5 (args := [.agg #[tv.1, xv.1], tabV w1 w2, graphV g]) 74 Tryd.func43 rfl Tryd.ntmps43 rfl (fun c => ?_)
 refine St.seq ?_
 refine St.openD (graphD g) (fun _ : Unit => graphL g) (fun ρ h => ⟨(), h⟩) fun _ => ?_
 refine St.cast (H' := [dat (sl nodeR g.nv.1 g.nodes), dat (dall nodeD g.nodes), dat (sl tyR tv.1 ts), dat (sl featR xv.1 fs), dat (sl u64R w1.1 (upsL (ts.map tyE))), dat (sl u64R w2.1 (dnsL (ts.map tyE))), dat (graphD g)]) rfl ?_
 have hgl := grE_len g
 have hTl : (ts.map tyE).length = ts.length := List.length_map ..
 have hFl : (fs.map ftE).length = fs.length := List.length_map ..
 refine St.wf g.nv.1 (fun hnw hnl => ?_)
 refine St.rg ?_
 refine St.boxA (.mk rfl) rfl (fun b3 => ?_)
 refine St.boxA (.mk rfl) rfl (fun b4 => ?_)
 refine St.boxA (.mk rfl) rfl (fun b5 => ?_)
 refine St.alloc zc42 rfl (fun b6 => ?_)
 refine St.nil (St.then_normal (St.seq (St.seq (St.rg ?_))))
 refine St.ev _ (Ev.ldbA (.mk rfl) Tryd.underlying25 trivial (by exact sz25)) rfl ?_
 refine St.ev _ (Ev.ldbA (.mk rfl) Tryd.underlying30 trivial (by exact sz30)) rfl ?_
 refine St.ev _ (Ev.call (Loose_spec tv xv ts fs g) cb56 (.cons (.mk rfl) (.cons (.mk rfl) .nil))) rfl ?_
 refine St.alloc zc42 rfl (fun b7 => ?_)
 refine St.storeA (Opd.mk rfl) (Opd.mk rfl) sz42 (by first | simp only [List.length_cons, List.length_nil] | rfl) rfl ?_
 refine St.nil (St.then_normal (St.seq (St.rg ?_)))
 refine St.ev _ (Ev.fldb0 (.mk rfl) fo42_0) rfl ?_
 refine St.ev _ (Ev.ldb (.mk rfl) Tryd.underlying3 trivial (by rfl)) rfl ?_
 refine St.ev _ (Ev.neq (.mk rfl) (.mk rfl)) rfl ?_
 refine St.nil (St.then_normal ?_)
 refine St.cond _ rfl (fun h19 => ?_) (fun h19 => ?_)
 ·skip
  skip
  have hb : (looseF (ts.map tyE).length (fs.map ftE).length (grE g)).1 ≠ 0 := by rw [hTl, hFl]; simpa using h19
  have hwf := withinF_l hb
  rw [hTl, hFl] at hwf
  refine St.seq (St.rg ?_)
  refine St.ev _ (Ev.ldbA (.mk rfl) Tryd.underlying42 trivial (by exact sz42)) rfl ?_
  refine St.storeA (Opd.mk rfl) (Opd.mk rfl) sz42 (by first | simp only [List.length_cons, List.length_nil] | rfl) rfl ?_
  refine St.nil (St.then_normal (St.rett (St.then_ret ?_)))
  refine St.rets [_] [] Tryd.results43 ⟨⟨_, _, _, _, rfl, InB.mem, .inl ⟨⟨_, Tryd.underlying42⟩, sz42, rfl⟩⟩, trivial⟩ ?_ (fun _ hw => hw.sub)
  exact congrArg fv hwf.symm
 ·skip
  skip
  have hb : ¬ (looseF (ts.map tyE).length (fs.map ftE).length (grE g)).1 ≠ 0 := by rw [hTl, hFl]; simpa using h19
  have hlk := loose_lk (Decidable.not_not.1 hb)
  obtain ⟨hg0, hg60, hok⟩ := loose_ok (Decidable.not_not.1 hb)
  refine St.skip (St.then_normal (St.seq (St.seq (St.rg ?_))))
  refine St.ev _ (Ev.fldb0 (.mk rfl) fo30_0) rfl ?_
  refine St.ev _ (Ev.ldb (.mk rfl) Tryd.underlying28 trivial (by rfl)) rfl ?_
  refine St.ev _ (Ev.lensl (.mk rfl) Tryd.underlying28) rfl ?_
  refine St.mv ?_
  refine St.nil (St.then_normal (St.block ?_))
  refine St.loopS (ι := Nat) (fun k T => (24, iv k) :: T) (fun k => k ≤ g.nodes.length ∧ ∀ i, i < k → badNd (ts.map tyE) (fs.map ftE) (grE g) i = false) (fun k => g.nodes.length - k) 0 (Keep.cons 3 rfl (Keep.cons 4 rfl (Keep.cons 5 rfl (Keep.cons 6 rfl (Keep.cons 22 rfl (Keep.cons 23 rfl Keep.nil)))))) ⟨Nat.zero_le _, fun i hi => absurd hi (by omega)⟩ (by repeat (first | exact Sub.nil | refine Sub.cons (by first | rfl | exact congrArg (fun z => some (iv z)) (by first | omega | (dsimp only; omega)) | exact congrArg (fun z => some (Value.bool z)) (by first | assumption | exact Eq.symm (by assumption))) ?_)) ?_
  intro k hphi
  obtain ⟨hk, hbd⟩ := hphi
  refine St.seq (St.rg ?_)
  refine St.ev _ (Ev.lss (.mk rfl) (.mk rfl)) rfl ?_
  refine St.nil (St.then_normal (St.seq ?_))
  refine St.cond _ rfl (fun h25 => ?_) (fun h25 => ?_)
  ·skip
   try simp only [jbAll] at h25
   obtain ⟨t, ht⟩ := some_of_lt (show k < g.nodes.length by omega)
   have htm := List.mem_of_getElem? ht
   refine St.dallAt nodeD g.nodes (x := t) htm ?_
   refine St.mkD (sl linkR t.lv.1 t.links) [nodeD t] (fun ρ h => h _ (List.mem_cons_self ..)) ?_
   refine St.wf t.lv.1 (fun hkw hkl => ?_)
   have hnd : (grE g).getD k nd0 = ndE t := by rw [List.getD_eq_getElem?_getD, grE_at ht]; rfl
   obtain ⟨hty, hlks⟩ := hok (ndE t) (List.mem_of_getElem? (grE_at ht))
   replace hty : 0 ≤ t.type ∧ t.type < ((ts.map tyE).length : Int) := hty
   refine St.skip (St.then_normal (St.seq (St.block (St.seq (St.rg ?_)))))
   refine St.mv ?_
   refine St.ev _ (Ev.idxaddr (k := k) (.mk rfl) (.mk rfl) Tryd.underlying28 sz116 (by omega) (by omega)) rfl ?_
   refine St.ev _ (Ev.ldA (.mk rfl) ht Tryd.underlying116 trivial sz116 Cel.eq) rfl ?_
   refine St.alloc zc116 rfl (fun b9 => ?_)
   refine St.asg ?_
   refine St.storeA (Opd.mk rfl) (Opd.mk rfl) sz116 (by first | simp only [List.length_cons, List.length_nil] | rfl) (by simp only [List.all_cons, List.all_nil, Bool.and_true, Bool.and_eq_true]; exact ⟨rfl, t.lv.2⟩) ?_
   refine St.nil (St.then_normal (St.seq (St.rg ?_)))
   refine St.ev _ (Ev.fldb0 (.mk rfl) fo116_1) rfl ?_
   refine St.ev _ (Ev.ldb (.mk rfl) Tryd.underlying114 trivial (by rfl)) rfl ?_
   refine St.ev _ (Ev.lensl (.mk rfl) Tryd.underlying114) rfl ?_
   refine St.mv ?_
   refine St.nil (St.then_normal (St.block ?_))
   refine St.loopS (ι := Nat) (fun q T => (32, iv q) :: T) (fun q => q ≤ t.links.length ∧ ∀ j, j < q → ∀ x, (ndE t).2[j]? = some x → badLk (ts.map tyE) (fs.map ftE) (grE g) t.type x = false) (fun q => t.links.length - q) 0 (Keep.cons 3 rfl (Keep.cons 4 rfl (Keep.cons 5 rfl (Keep.cons 6 rfl (Keep.cons 8 rfl (Keep.cons 9 rfl (Keep.cons 22 rfl (Keep.cons 23 rfl (Keep.cons 24 rfl (Keep.cons 30 rfl (Keep.cons 31 rfl Keep.nil))))))))))) ⟨Nat.zero_le _, fun j hj => absurd hj (by omega)⟩ (by repeat (first | exact Sub.nil | refine Sub.cons (by first | rfl | exact congrArg (fun z => some (iv z)) (by first | omega | (dsimp only; omega)) | exact congrArg (fun z => some (Value.bool z)) (by first | assumption | exact Eq.symm (by assumption))) ?_)) ?_
   intro q hphi
   obtain ⟨hq, hin⟩ := hphi
   refine St.seq (St.rg ?_)
   refine St.ev _ (Ev.lss (.mk rfl) (.mk rfl)) rfl ?_
   refine St.nil (St.then_normal (St.seq ?_))
   refine St.cond _ rfl (fun h33 => ?_) (fun h33 => ?_)
   ·skip
    try simp only [jbAll] at h33
    obtain ⟨p, hp⟩ := some_of_lt (show q < t.links.length by omega)
    have hlk1 : (ndE t).2[q]? = some (lkE p) := by show (t.links.map lkE)[q]? = _; rw [List.getElem?_map, hp]; rfl
    have hpk := hlks (lkE p) (List.mem_of_getElem? hlk1)
    replace hpk : 0 ≤ p.feat ∧ p.feat < ((fs.map ftE).length : Int) ∧ 0 ≤ p.to ∧ p.to < ((grE g).length : Int) := hpk
    obtain ⟨fe, hfe⟩ := some_of_lt (show p.feat.toNat < fs.length by omega)
    obtain ⟨u, hu⟩ := some_of_lt (show p.to.toNat < g.nodes.length by omega)
    have hfo := hF fe (List.mem_of_getElem? hfe)
    have huo := (hok (ndE u) (List.mem_of_getElem? (grE_at hu))).1
    replace huo : 0 ≤ u.type ∧ u.type < ((ts.map tyE).length : Int) := huo
    have hbad : (!subT (ts.map tyE) t.type.toNat fe.of_.toNat || !subT (ts.map tyE) u.type.toNat fe.value.toNat) = badLk (ts.map tyE) (fs.map ftE) (grE g) t.type (lkE p) := by
     unfold badLk
     rw [show (lkE p).1 = p.feat from rfl, show (lkE p).2 = p.to from rfl, List.getD_eq_getElem?_getD, List.getElem?_map, hfe, List.getD_eq_getElem?_getD, grE_at hu]; rfl
    refine St.skip (St.then_normal (St.seq (St.block (St.seq (St.rg ?_)))))
    refine St.ev _ (Ev.idxaddr (k := q) (.mk rfl) (.mk rfl) Tryd.underlying114 sz118 (by omega) (by omega)) rfl ?_
    refine St.ev _ (Ev.ldA (.mk rfl) hp Tryd.underlying118 trivial sz118 Cel.eq) rfl ?_
    refine St.alloc zc118 rfl (fun b11 => ?_)
    refine St.storeA (Opd.mk rfl) (Opd.mk rfl) sz118 (by first | simp only [List.length_cons, List.length_nil] | rfl) (by simp only [List.all_cons, List.all_nil, Bool.and_true, Bool.and_eq_true]; exact ⟨rfl, rfl⟩) ?_
    refine St.nil (St.then_normal (St.seq (St.rg ?_)))
    refine St.ev _ (Ev.fldb0 (.mk rfl) fo25_1) rfl ?_
    refine St.ev _ (Ev.ldb (.mk rfl) Tryd.underlying23 trivial (by rfl)) rfl ?_
    refine St.ev _ (Ev.fldb0 (.mk rfl) fo118_0) rfl ?_
    refine St.ev _ (Ev.ldb (.mk rfl) Tryd.underlying3 trivial (by rfl)) rfl ?_
    refine St.ev _ (Ev.idxaddr (k := p.feat.toNat) (.mk rfl) (.mk rfl) Tryd.underlying23 sz87 (by omega) (by omega)) rfl ?_
    refine St.ev _ (Ev.ldA (.mk rfl) hfe Tryd.underlying87 trivial sz87 Cel.eq) rfl ?_
    refine St.alloc zc87 rfl (fun b12 => ?_)
    refine St.storeA (Opd.mk rfl) (Opd.mk rfl) sz87 (by first | simp only [List.length_cons, List.length_nil] | rfl) (by simp only [List.all_cons, List.all_nil, Bool.and_true, Bool.and_eq_true]; exact ⟨rfl, rfl, rfl⟩) ?_
    refine St.nil (St.then_normal (St.seq ?_))
    refine St.rq mixed (by kernel_rfl) (Mm.drawn _ _) ?_
    refine Sq.ev _ (Ev.ldbA (.mk rfl) Tryd.underlying102 trivial (by exact sz102)) rfl ?_
    refine Sq.ev _ (Ev.fldb0 (.mk rfl) fo116_0) rfl ?_
    refine Sq.ev _ (Ev.ldb (.mk rfl) Tryd.underlying3 trivial (by rfl)) rfl ?_
    refine Sq.ev _ (Ev.fldb0 (.mk rfl) fo87_1) rfl ?_
    refine Sq.ev _ (Ev.ldb (.mk rfl) Tryd.underlying3 trivial (by rfl)) rfl ?_
    refine Sq.ev _ (Ev.call (Sub_specI w1 w2 (ts.map tyE) hT t.type fe.of_ ⟨by omega, by omega⟩ ⟨by omega, by omega⟩) cb57 (.cons (.mk rfl) (.cons (.mk rfl) (.cons (.mk rfl) .nil)))) rfl ?_
    refine Sq.ev _ (Ev.not (.mk rfl)) rfl ?_
    refine Sq.ev _ (Ev.move (.mk rfl)) rfl ?_
    refine Sq.gf _ rfl rfl (fun hg => Ev.ldbA (.mk rfl) Tryd.underlying102 trivial (by exact sz102)) rfl ?_
    refine Sq.gf _ rfl rfl (fun hg => Ev.fldb0 (.mk rfl) fo30_0) rfl ?_
    refine Sq.gf _ rfl rfl (fun hg => Ev.ldb (Opd.gv rfl hg) Tryd.underlying28 trivial (by rfl)) rfl ?_
    refine Sq.gf _ rfl rfl (fun hg => Ev.fldb0 (.mk rfl) fo118_1) rfl ?_
    refine Sq.gf _ rfl rfl (fun hg => Ev.ldb (Opd.gv rfl hg) Tryd.underlying3 trivial (by rfl)) rfl ?_
    refine Sq.gf _ rfl rfl (fun hg => Ev.idxaddr (k := p.to.toNat) (Opd.gv rfl hg) (Opd.gv rfl hg) Tryd.underlying28 sz116 (by first | omega | (simp only [jbAll] at hg; omega)) (by first | omega | (simp only [jbAll] at hg; omega))) rfl ?_
    refine Sq.gf _ rfl rfl (fun hg => Ev.fldel (Opd.gv rfl hg) (by first | omega | (simp only [jbAll] at hg; omega)) fo116_0) rfl ?_
    refine Sq.gf _ rfl rfl (fun hg => Ev.ld1 (Opd.gv rfl hg) hu Tryd.underlying3 trivial rfl) rfl ?_
    refine Sq.gf _ rfl rfl (fun hg => Ev.fldb0 (.mk rfl) fo87_2) rfl ?_
    refine Sq.gf _ rfl rfl (fun hg => Ev.ldb (Opd.gv rfl hg) Tryd.underlying3 trivial (by rfl)) rfl ?_
    refine Sq.gf _ rfl rfl (fun hg => Ev.call (Sub_specI w1 w2 (ts.map tyE) hT u.type fe.value ⟨by omega, by omega⟩ ⟨by omega, by omega⟩) cb57 (.cons (Opd.gv rfl hg) (.cons (Opd.gv rfl hg) (.cons (Opd.gv rfl hg) .nil)))) rfl ?_
    refine Sq.gf _ rfl rfl (fun hg => Ev.not (Opd.gv rfl hg)) rfl ?_
    refine Sq.ev _ (Ev.or (.mk rfl) (fun hp => Opd.gv rfl hp)) rfl ?_
    refine Sq.nil ?_
    refine St.then_normal ?_
    refine St.cond _ rfl (fun h62 => ?_) (fun h62 => ?_)
    ·skip
     skip
     rw [hbad] at h62
     have hbk : badNd (ts.map tyE) (fs.map ftE) (grE g) k = true := by unfold badNd; rw [hnd, List.any_eq_true]; exact ⟨lkE p, List.mem_of_getElem? hlk1, h62⟩
     have hwf := withinF_b hb (first_at (by omega) hbk hbd)
     refine St.seq (St.rg ?_)
     refine St.mv ?_
     refine St.ev _ (Ev.call (graphFault_spec 12 k) cb58 (.cons (.mk rfl) (.cons (.mk rfl) .nil))) rfl ?_
     refine St.storeA (Opd.mk rfl) (Opd.mk rfl) sz42 (by first | simp only [List.length_cons, List.length_nil] | rfl) rfl ?_
     refine St.nil (St.then_normal (St.rett (St.in_ret (St.then_ret (St.then_ret (St.in_ret (St.in_ret (St.then_ret (St.then_ret (St.in_ret (St.then_ret ?_)))))))))))
     refine St.rets [_] [] Tryd.results43 ⟨⟨_, _, _, _, rfl, InB.mem, .inl ⟨⟨_, Tryd.underlying42⟩, sz42, rfl⟩⟩, trivial⟩ ?_ (fun _ hw => hw.sub)
     exact congrArg fv hwf.symm
    ·skip
     skip
     rw [hbad] at h62
     refine St.skip (St.in_normal (St.then_normal (St.rg ?_)))
     refine St.ev _ (Ev.add (.mk rfl) (.mk rfl) (by omega)) rfl ?_
     refine St.mv ?_
     refine St.nil (St.then_normal ?_)
     refine St.againS (q + 1) ⟨by omega, fun j hj x hx => by rcases Nat.lt_or_ge j q with h | h; exact hin j h x hx; rw [show j = q by omega, hlk1] at hx; cases hx; exact h62⟩ (by first | omega | (dsimp only; omega)) (by repeat (first | exact Sub.nil | refine Sub.cons (by first | rfl | exact congrArg (fun z => some (iv z)) (by first | omega | (dsimp only; omega)) | exact congrArg (fun z => some (Value.bool z)) (by first | assumption | exact Eq.symm (by assumption))) ?_)) (fun _ hw => hw.sub)
   ·skip
    try simp only [jbAll] at h33
    refine St.exit (St.then_exit (St.then_exit (St.in_hit (St.in_normal (St.then_normal (St.rg ?_))))))
    refine St.ev _ (Ev.add (.mk rfl) (.mk rfl) (by omega)) rfl ?_
    refine St.mv ?_
    refine St.nil (St.then_normal ?_)
    have hbk : badNd (ts.map tyE) (fs.map ftE) (grE g) k = false := by
     unfold badNd; rw [hnd, List.any_eq_false]
     intro x hx
     obtain ⟨j, hj⟩ := List.getElem?_of_mem hx
     rw [show (ndE t).1 = t.type from rfl, hin j (by have := lt_of_some hj; rw [show (ndE t).2.length = t.links.length from List.length_map _] at this; omega) x hj]; decide
    refine St.againS (k + 1) ⟨by omega, fun i hi => by rcases Nat.lt_or_ge i k with h | h; exact hbd i h; rw [show i = k by omega]; exact hbk⟩ (by first | omega | (dsimp only; omega)) (by repeat (first | exact Sub.nil | refine Sub.cons (by first | rfl | exact congrArg (fun z => some (iv z)) (by first | omega | (dsimp only; omega)) | exact congrArg (fun z => some (Value.bool z)) (by first | assumption | exact Eq.symm (by assumption))) ?_)) (fun _ hw => hw.sub)
  ·skip
   try simp only [jbAll] at h25
   have hwf := withinF_u hb (first_no (by rw [hgl]; intro i hi; exact hbd i (by omega)))
   refine St.exit (St.then_exit (St.then_exit (St.in_hit (St.then_normal (St.seq (St.seq (St.rg ?_)))))))
   refine St.ev _ (Ev.ldbA (.mk rfl) Tryd.underlying30 trivial (by exact sz30)) rfl ?_
   refine St.ev _ (Ev.call (Unreached_spec g hlk (by omega)) cb59 (.cons (.mk rfl) .nil)) rfl ?_
   refine St.asg ?_
   refine St.nil (St.then_normal (St.seq (St.rg ?_)))
   refine St.mv ?_
   refine St.ev _ (Ev.geq (.mk rfl) (.mk rfl)) rfl ?_
   refine St.nil (St.then_normal ?_)
   refine St.cond _ rfl (fun h70 => ?_) (fun h70 => ?_)
   ·skip
    try simp only [jbAll] at h70
    rw [if_pos (by omega)] at hwf
    refine St.seq (St.rg ?_)
    refine St.mv ?_
    refine St.ev _ (Ev.call (graphFault_spec 5 (unr (grE g))) cb58 (.cons (.mk rfl) (.cons (.mk rfl) .nil))) rfl ?_
    refine St.storeA (Opd.mk rfl) (Opd.mk rfl) sz42 (by first | simp only [List.length_cons, List.length_nil] | rfl) rfl ?_
    refine St.nil (St.then_normal (St.rett (St.then_ret ?_)))
    refine St.rets [_] [] Tryd.results43 ⟨⟨_, _, _, _, rfl, InB.mem, .inl ⟨⟨_, Tryd.underlying42⟩, sz42, rfl⟩⟩, trivial⟩ ?_ (fun _ hw => hw.sub)
    exact congrArg fv hwf.symm
   ·skip
    try simp only [jbAll] at h70
    rw [if_neg (by omega)] at hwf
    refine St.skip (St.then_normal (St.seq (St.rg ?_)))
    refine St.ev _ (Ev.build (ps := []) (Opds.nil) (fun w => bld42_  w)) rfl ?_
    refine St.storeA (Opd.mk rfl) (Opd.mk rfl) sz42 (by first | simp only [List.length_cons, List.length_nil] | rfl) rfl ?_
    refine St.nil (St.then_normal (St.rett ?_))
    refine St.rets [_] [] Tryd.results43 ⟨⟨_, _, _, _, rfl, InB.mem, .inl ⟨⟨_, Tryd.underlying42⟩, sz42, rfl⟩⟩, trivial⟩ ?_ (fun _ hw => hw.sub)
    exact congrArg fv hwf.symm
end Go.Proofs.YtolmidffiegkaaaDoor

/-
  (YtolmidffiegkaaaDoorQ18)
  The walks of the search for a link.
  Conditions: none beyond the sizes.
-/
set_option maxRecDepth 20000
set_option linter.unusedSimpArgs false
set_option linter.unusedVariables false
namespace Go.Proofs.YtolmidffiegkaaaDoor
open Go Go.J
def cmpI (a b : Int) : Int := if a < b then -1 else if b < a then 1 else 0
def Asc (l : List LinkD) : Prop := ∀ (i j : Nat) (x y : LinkD), i < j → l[i]? = some x → l[j]? = some y → x.feat < y.feat
def srchL (l : List LinkD) (k : Int) (v : Value) : Prop := ∃ (i : Nat) (b : Bool), v = .tuple #[iv i, .bool b] ∧ (b = true → ∃ x, l[i]? = some x ∧ x.feat = k) ∧ (b = false → ∀ x ∈ l, x.feat ≠ k)
theorem isNaN_spec (x : Int) : FnV Tryd.prog 86 #[iv x] [] (.bool false) := by
 refine FnV.body0 (args := [iv x]) 6 Tryd.func86 rfl Tryd.ntmps86 rfl (fun c => ?_)
 refine St.seq (St.rg ?_)
 refine St.asg ?_
 refine St.nil (St.then_normal (St.seq (St.rg ?_)))
 refine St.mv ?_
 refine St.mv ?_
 refine St.ev _ (Ev.neq (.mk rfl) (.mk rfl)) rfl ?_
 refine St.asg ?_
 refine St.nil (St.then_normal (St.rett ?_))
 refine St.rets [_] [] Tryd.results86 ⟨rfl, trivial⟩ ?_ (fun _ hw => hw.sub)
 exact be (by simp)
theorem Compare_spec (x y : Int) : FnV Tryd.prog 79 #[iv x, iv y] [] (iv (cmpI x y)) := by
 refine FnV.body0 (args := [iv x, iv y]) 20 Tryd.func79 rfl Tryd.ntmps79 rfl (fun c => ?_)
 refine St.seq (St.rg ?_)
 refine St.asg ?_
 refine St.nil (St.then_normal (St.seq (St.rg ?_)))
 refine St.mv ?_
 refine St.ev _ (Ev.call (isNaN_spec x) cb86 (.cons (.mk rfl) .nil)) rfl ?_
 refine St.asg ?_
 refine St.nil (St.then_normal (St.seq (St.rg ?_)))
 refine St.mv ?_
 refine St.ev _ (Ev.call (isNaN_spec y) cb86 (.cons (.mk rfl) .nil)) rfl ?_
 refine St.asg ?_
 refine St.nil (St.then_normal (St.seq (St.seq (St.rg ?_))))
 refine St.mv ?_
 refine St.nil (St.then_normal ?_)
 refine St.condf _ rfl rfl ?_
 refine St.skip (St.then_normal (St.seq (St.seq (St.rg ?_))))
 refine St.mv ?_
 refine St.nil (St.then_normal ?_)
 refine St.condf _ rfl rfl ?_
 refine St.skip (St.then_normal (St.seq (St.seq (St.rg ?_))))
 refine St.mv ?_
 refine St.mv ?_
 refine St.ev _ (Ev.lss (.mk rfl) (.mk rfl)) rfl ?_
 refine St.nil (St.then_normal ?_)
 refine St.cond _ rfl (fun h16 => ?_) (fun h16 => ?_)
 ·skip
  try simp only [jbAll] at h16
  refine St.seq (St.rg ?_)
  refine St.asg ?_
  refine St.nil (St.then_normal (St.rett (St.then_ret ?_)))
  refine St.rets [_] [] Tryd.results79 ⟨rfl, trivial⟩ ?_ (fun _ hw => hw.sub)
  exact ie (by unfold cmpI; rw [if_pos h16])
 ·skip
  try simp only [jbAll] at h16
  refine St.skip (St.then_normal (St.seq (St.seq (St.rg ?_))))
  refine St.mv ?_
  refine St.mv ?_
  refine St.ev _ (Ev.gtr (.mk rfl) (.mk rfl)) rfl ?_
  refine St.nil (St.then_normal ?_)
  refine St.cond _ rfl (fun h19 => ?_) (fun h19 => ?_)
  ·skip
   try simp only [jbAll] at h19
   refine St.seq (St.rg ?_)
   refine St.asg ?_
   refine St.nil (St.then_normal (St.rett (St.then_ret ?_)))
   refine St.rets [_] [] Tryd.results79 ⟨rfl, trivial⟩ ?_ (fun _ hw => hw.sub)
   exact ie (by unfold cmpI; rw [if_neg (by omega), if_pos (by omega)])
  ·skip
   try simp only [jbAll] at h19
   refine St.skip (St.then_normal (St.seq (St.rg ?_)))
   refine St.asg ?_
   refine St.nil (St.then_normal (St.rett ?_))
   refine St.rets [_] [] Tryd.results79 ⟨rfl, trivial⟩ ?_ (fun _ hw => hw.sub)
   exact ie (by unfold cmpI; rw [if_neg (by omega), if_neg (by omega)])
theorem TargetC_spec (x : LinkD) (k : Int) : FnV Tryd.prog 78 ([Value.agg #[iv x.feat, iv x.to], iv k] ++ []).toArray [] (iv (cmpI x.feat k)) := by
 refine FnV.body0 (args := [Value.agg #[iv x.feat, iv x.to], iv k] ++ []) 9 Tryd.func78 rfl Tryd.ntmps78 rfl (fun c => ?_)
 refine St.seq (St.rg ?_)
 refine St.boxA (.mk rfl) rfl (fun b2 => ?_)
 refine St.asg ?_
 refine St.nil (St.then_normal (St.seq (St.rg ?_)))
 refine St.ev _ (Ev.fldb0 (.mk rfl) fo118_0) rfl ?_
 refine St.ev _ (Ev.ldb (.mk rfl) Tryd.underlying3 trivial (by rfl)) rfl ?_
 refine St.mv ?_
 refine St.ev _ (Ev.call (Compare_spec x.feat k) cb79 (.cons (.mk rfl) (.cons (.mk rfl) .nil))) rfl ?_
 refine St.asg ?_
 refine St.nil (St.then_normal (St.rett ?_))
 refine St.rets [_] [] Tryd.results78 ⟨rfl, trivial⟩ ?_ (fun _ hw => hw.sub)
 rfl
set_option maxHeartbeats 1000000 in
theorem BSF_spec (u : Value) (l : List LinkD) (k : Int) (ha : Asc l) (hl : l.length ≤ 1000000) : FnH Tryd.prog 77 #[u, iv k, .func (.func 78) #[] #[]] ([sl linkR u l].map dat) (fun v H' => srchL l k v ∧ H' = []) := by
 refine FnH.body (args := [u, iv k, .func (.func 78) #[] #[]]) 49 Tryd.func77 rfl Tryd.ntmps77 rfl (fun c => ?_)
 refine St.cast (H' := [dat (sl linkR u l)]) rfl ?_
 refine St.seq (St.rg ?_)
 refine St.asg ?_
 refine St.asg ?_
 refine St.nil (St.then_normal (St.seq (St.rg ?_)))
 refine St.mv ?_
 refine St.ev _ (Ev.lensl (.mk rfl) Tryd.underlying114) rfl ?_
 refine St.asg ?_
 refine St.nil (St.then_normal (St.seq (St.rg ?_)))
 refine St.mv ?_
 refine St.asg ?_
 refine St.asg ?_
 refine St.nil (St.then_normal (St.seq (St.block ?_)))
 refine St.loopS (ι := Nat × Nat) (fun x T => (9, iv x.1) :: (10, iv x.2) :: T) (fun x => x.1 ≤ x.2 ∧ x.2 ≤ l.length ∧ (∀ j y, j < x.1 → l[j]? = some y → y.feat < k) ∧ (∀ j y, x.2 ≤ j → l[j]? = some y → k ≤ y.feat)) (fun x => x.2 - x.1) (0, l.length) (Keep.cons 0 rfl (Keep.cons 1 rfl (Keep.cons 2 rfl (Keep.cons 6 rfl (Keep.cons 7 rfl (Keep.cons 8 rfl Keep.nil)))))) ⟨Nat.zero_le _, Nat.le_refl _, fun j y hj => absurd hj (Nat.not_lt_zero j), fun j y hj h => by have := lt_of_some h; omega⟩ (by repeat (first | exact Sub.nil | refine Sub.cons (by first | rfl | exact congrArg (fun z => some (iv z)) (by first | omega | (dsimp only; omega)) | exact congrArg (fun z => some (Value.bool z)) (by first | assumption | exact Eq.symm (by assumption))) ?_)) ?_
 rintro ⟨i, j⟩ ⟨hk1, hk2, hv1, hv2⟩
 dsimp only at hk1 hk2 hv1 hv2 ⊢
 refine St.seq (St.seq (St.rg ?_))
 refine St.mv ?_
 refine St.mv ?_
 refine St.ev _ (Ev.lss (.mk rfl) (.mk rfl)) rfl ?_
 refine St.nil (St.then_normal ?_)
 refine St.cond _ rfl (fun h17 => ?_) (fun h17 => ?_)
 ·skip
  try simp only [jbAll] at h17
  have hm1 : i ≤ (i + j) / 2 := by omega
  have hm2 : (i + j) / 2 < j := by omega
  obtain ⟨y, hy⟩ := some_of_lt (show (i + j) / 2 < l.length by omega)
  refine St.skip (St.then_normal (St.block (St.seq (St.rg ?_))))
  refine St.mv ?_
  refine St.mv ?_
  refine St.ev _ (Ev.add (.mk rfl) (.mk rfl) (by omega)) rfl ?_
  refine St.ev _ (Ev.convIN ((i + j)) (.mk rfl) (by rw [Tryd.underlying3]; rfl) Tryd.underlying154 (by omega)) rfl ?_
  refine St.ev _ (Ev.shrU 1 2 (by decide) (.mk rfl) (.mk rfl) (by decide)) rfl ?_
  refine St.ev _ (Ev.convUI (.mk rfl) (by rw [Tryd.underlying154]; rfl) Tryd.underlying3 (by omega)) rfl ?_
  refine St.asg ?_
  refine St.nil (St.then_normal (St.seq (St.rg ?_)))
  refine St.mv ?_
  refine St.mv ?_
  refine St.mv ?_
  refine St.ev _ (Ev.idxaddr (k := ((i + j) / 2)) (.mk rfl) (.mk rfl) Tryd.underlying114 sz118 (by omega) (by omega)) rfl ?_
  refine St.ev _ (Ev.ldA (.mk rfl) hy Tryd.underlying118 trivial sz118 Cel.eq) rfl ?_
  refine St.mv ?_
  refine St.ev _ (Ev.callc (TargetC_spec y k) cb78 (.mk rfl) (.cons (.mk rfl) (.cons (.mk rfl) .nil))) rfl ?_
  refine St.ev _ (Ev.lss (.mk rfl) (.mk rfl)) rfl ?_
  refine St.nil (St.then_normal ?_)
  refine St.cond _ rfl (fun h31 => ?_) (fun h31 => ?_)
  ·skip
   try simp only [jbAll] at h31
   have hyk : y.feat < k := by unfold cmpI at h31; split at h31 <;> first | assumption | (split at h31 <;> omega)
   refine St.rg ?_
   refine St.mv ?_
   refine St.ev _ (Ev.add (.mk rfl) (.mk rfl) (by omega)) rfl ?_
   refine St.asg ?_
   refine St.nil (St.in_normal (St.then_normal ?_))
   refine St.againS ((i + j) / 2 + 1, j) ⟨by show (i + j) / 2 + 1 ≤ j; omega, hk2, fun q z hq hz => by rcases Nat.lt_or_ge q ((i + j) / 2) with g | g; exact Int.lt_trans (ha _ _ _ _ g hz hy) hyk; rw [show q = (i + j) / 2 from Nat.le_antisymm (Nat.le_of_lt_succ hq) g, hy] at hz; cases hz; exact hyk, hv2⟩ (by first | omega | (dsimp only; omega)) (by repeat (first | exact Sub.nil | refine Sub.cons (by first | rfl | exact congrArg (fun z => some (iv z)) (by first | omega | (dsimp only; omega)) | exact congrArg (fun z => some (Value.bool z)) (by first | assumption | exact Eq.symm (by assumption))) ?_)) (fun _ hw => hw.sub)
  ·skip
   try simp only [jbAll] at h31
   have hyk : k ≤ y.feat := by unfold cmpI at h31; split at h31 <;> omega
   refine St.rg ?_
   refine St.mv ?_
   refine St.asg ?_
   refine St.nil (St.in_normal (St.then_normal ?_))
   refine St.againS (i, (i + j) / 2) ⟨hm1, by show (i + j) / 2 ≤ l.length; omega, hv1, fun q z hq hz => by rcases Nat.lt_or_ge ((i + j) / 2) q with g | g; exact Int.le_trans hyk (Int.le_of_lt (ha _ _ _ _ g hy hz)); rw [show q = (i + j) / 2 from Nat.le_antisymm g hq, hy] at hz; cases hz; exact hyk⟩ (by first | omega | (dsimp only; omega)) (by repeat (first | exact Sub.nil | refine Sub.cons (by first | rfl | exact congrArg (fun z => some (iv z)) (by first | omega | (dsimp only; omega)) | exact congrArg (fun z => some (Value.bool z)) (by first | assumption | exact Eq.symm (by assumption))) ?_)) (fun _ hw => hw.sub)
 ·skip
  try simp only [jbAll] at h17
  have hij : i = j := by omega
  subst hij
  refine St.exit (St.then_exit (St.then_exit (St.in_hit (St.then_normal (St.seq (St.rg ?_))))))
  refine St.mv ?_
  refine St.mv ?_
  refine St.mv ?_
  refine St.ev _ (Ev.lss (.mk rfl) (.mk rfl)) rfl ?_
  refine St.split 38 _ rfl (fun hs38 => ?_) (fun hs38 => ?_)
  ·skip
   have hiW : i < l.length := by simpa using hs38
   obtain ⟨y, hy⟩ := some_of_lt hiW
   refine St.mv ?_
   refine St.takeg rfl rfl ?_
   refine St.mv ?_
   refine St.takeg rfl rfl ?_
   refine St.mv ?_
   refine St.takeg rfl rfl ?_
   refine St.mv ?_
   refine St.takeg rfl rfl ?_
   refine St.ev _ (Ev.idxaddr (k := i) (.mk rfl) (.mk rfl) Tryd.underlying114 sz118 (by omega) (by omega)) rfl ?_
   refine St.takeg rfl rfl ?_
   refine St.ev _ (Ev.ldA (.mk rfl) hy Tryd.underlying118 trivial sz118 Cel.eq) rfl ?_
   refine St.takeg rfl rfl ?_
   refine St.mv ?_
   refine St.takeg rfl rfl ?_
   refine St.ev _ (Ev.callc (TargetC_spec y k) cb78 (.mk rfl) (.cons (.mk rfl) (.cons (.mk rfl) .nil))) rfl ?_
   refine St.takeg rfl rfl ?_
   refine St.ev _ (Ev.eql (.mk rfl) (.mk rfl)) rfl ?_
   refine St.split 47 _ rfl (fun hs47 => ?_) (fun hs47 => ?_)
   ·skip
    refine St.ev _ (Ev.pickt (.mk rfl) rfl (.mk rfl)) rfl ?_
    refine St.asg ?_
    refine St.asg ?_
    refine St.nil (St.then_normal (St.rett ?_))
    refine St.rets [_, _] [] Tryd.results77 ⟨rfl, ⟨rfl, trivial⟩⟩ ?_ (fun _ hw => hw.sub)
    have hc : cmpI y.feat k = 0 := by simpa using hs47
    have hyk : y.feat = k := by unfold cmpI at hc; split at hc; cases hc; split at hc; cases hc; omega
    exact ⟨⟨i, true, rfl, fun _ => ⟨y, hy, hyk⟩, fun h => (by cases h)⟩, rfl⟩
   ·skip
    refine St.ev _ (Ev.pickt (.mk rfl) rfl (.mk rfl)) rfl ?_
    refine St.asg ?_
    refine St.asg ?_
    refine St.nil (St.then_normal (St.rett ?_))
    refine St.rets [_, _] [] Tryd.results77 ⟨rfl, ⟨rfl, trivial⟩⟩ ?_ (fun _ hw => hw.sub)
    have hc : cmpI y.feat k ≠ 0 := by simpa using hs47
    have hyk : y.feat ≠ k := fun e => hc (by unfold cmpI; rw [if_neg (by omega), if_neg (by omega)])
    have hyg := hv2 i y (Nat.le_refl _) hy
    exact ⟨⟨i, false, rfl, fun h => (by cases h), fun _ z hz => by obtain ⟨q, hq⟩ := List.getElem?_of_mem hz; rcases Nat.lt_trichotomy q i with g | g | g; have := hv1 q z g hq; omega; rw [g, hy] at hq; cases hq; exact hyk; have := ha _ _ _ _ g hy hq; omega⟩, rfl⟩
  ·skip
   have hiW : l.length ≤ i := by simpa using hs38
   refine St.mv ?_
   refine St.skipg rfl rfl rfl ?_
   refine St.skipg rfl rfl rfl ?_
   refine St.skipg rfl rfl rfl ?_
   refine St.skipg rfl rfl rfl ?_
   refine St.skipg rfl rfl rfl ?_
   refine St.skipg rfl rfl rfl ?_
   refine St.skipg rfl rfl rfl ?_
   refine St.skipg rfl rfl rfl ?_
   refine St.ev _ (Ev.pickf (.mk rfl) rfl (.mk rfl)) rfl ?_
   refine St.asg ?_
   refine St.asg ?_
   refine St.nil (St.then_normal (St.rett ?_))
   refine St.rets [_, _] [] Tryd.results77 ⟨rfl, ⟨rfl, trivial⟩⟩ ?_ (fun _ hw => hw.sub)
   exact ⟨⟨i, false, rfl, fun h => (by cases h), fun _ z hz => by obtain ⟨q, hq⟩ := List.getElem?_of_mem hz; have h1 := lt_of_some hq; have h2 := hv1 q z (by omega) hq; omega⟩, rfl⟩
end Go.Proofs.YtolmidffiegkaaaDoor

/-
  (YtolmidffiegkaaaDoorQ19)
  The walk of the look for a link.
  Conditions: none beyond the sizes.
-/
set_option maxRecDepth 20000
set_option linter.unusedSimpArgs false
set_option linter.unusedVariables false
namespace Go.Proofs.YtolmidffiegkaaaDoor
open Go Go.J
def tgtAt (G : Gr0) (i : Nat) (k : Int) : Int := match (G.getD i nd0).2.find? fun x => x.1 == k with
 | some x => x.2
 | none => -1
theorem tgt_at (G : Gr0) (k : Int) : tgtAt G 0 k = tgt G k := rfl
theorem tgt_hit {l : List LinkD} (ha : Asc l) {j : Nat} {x : LinkD} {k : Int} (hx : l[j]? = some x) (hk : x.feat = k) : (l.map lkE).find? (fun y => y.1 == k) = some (lkE x) := by
 cases h : (l.map lkE).find? (fun y => y.1 == k) with
 | none =>
  rw [List.find?_eq_none] at h
  exact absurd (show ((lkE x).1 == k) = true by rw [beq_iff_eq]; exact hk) (h (lkE x) (List.mem_map_of_mem (List.mem_of_getElem? hx)))
 | some y =>
  have h1 := List.find?_some h
  obtain ⟨z, hz, rfl⟩ := List.mem_map.1 (List.mem_of_find?_eq_some h)
  have hzk : z.feat = k := by simpa [lkE] using h1
  obtain ⟨q, hq⟩ := List.getElem?_of_mem hz
  rcases Nat.lt_trichotomy q j with g | g | g
  ·have := ha _ _ _ _ g hq hx; omega
  ·rw [g, hx] at hq; cases hq; rfl
  ·have := ha _ _ _ _ g hx hq; omega
theorem tgt_miss {l : List LinkD} {k : Int} (h : ∀ x ∈ l, x.feat ≠ k) : (l.map lkE).find? (fun y => y.1 == k) = none := by
 rw [List.find?_eq_none]
 intro y hy
 obtain ⟨z, hz, rfl⟩ := List.mem_map.1 hy
 rw [beq_iff_eq]; exact h z hz
theorem lkF_asc {nf nn i : Int} : ∀ {l : List LinkD} {z : Int}, (lkF nf nn i z (l.map lkE)).1 = 0 → (∀ x ∈ l, z < x.feat) ∧ Asc l
 | [], _, _ => ⟨fun x hx => (by cases hx), fun i j x y _ hi => (by simp at hi)⟩
 | y :: l, z, h => by
  rw [List.map_cons, lkF] at h
  by_cases h1 : (lkE y).1 < 0 ∨ nf ≤ (lkE y).1 ∨ (lkE y).2 < 0 ∨ nn ≤ (lkE y).2
  ·rw [if_pos h1] at h; exact absurd h (by simp)
  rw [if_neg h1] at h
  by_cases h2 : (lkE y).1 ≤ z
  ·rw [if_pos h2] at h; exact absurd h (by simp)
  rw [if_neg h2] at h
  obtain ⟨k1, k2⟩ := lkF_asc h
  replace k1 : ∀ x ∈ l, y.feat < x.feat := k1
  replace h2 : ¬ y.feat ≤ z := h2
  refine ⟨fun x hx => ?_, fun i j a b hij ha hb => ?_⟩
  ·rcases List.mem_cons.1 hx with rfl | hx
   ·omega
   ·have := k1 x hx; omega
  ·obtain ⟨j, rfl⟩ : ∃ j', j = j' + 1 := ⟨j - 1, by omega⟩
   rw [List.getElem?_cons_succ] at hb
   cases i with
   | zero => rw [List.getElem?_cons_zero] at ha; cases ha; exact k1 b (List.mem_of_getElem? hb)
   | succ i => rw [List.getElem?_cons_succ] at ha; exact k2 i j a b (by omega) ha hb
theorem looseFrom_asc {nt nf nn : Int} : ∀ {l : List NodeD} {i : Nat}, (looseFrom nt nf nn i (l.map ndE)).1 = 0 → ∀ n ∈ l, Asc n.links
 | [], _, _ => fun x hx => by cases hx
 | y :: l, i, h => by
  rw [List.map_cons, looseFrom] at h
  by_cases h1 : (ndE y).1 < 0 ∨ nt ≤ (ndE y).1
  ·rw [if_pos h1] at h; exact absurd h (by simp)
  rw [if_neg h1] at h
  by_cases h2 : (lkF nf nn i (-1) (ndE y).2).1 ≠ 0
  ·rw [if_pos h2] at h; exact absurd h h2
  rw [if_neg h2] at h
  intro x hx
  rcases List.mem_cons.1 hx with rfl | hx
  ·exact (lkF_asc (Decidable.not_not.1 h2)).2
  ·exact looseFrom_asc h x hx
theorem loose_asc {nt nf : Int} {g : GraphD} (h : (looseF nt nf (grE g)).1 = 0) : ∀ n ∈ g.nodes, Asc n.links := by
 unfold looseF at h
 by_cases h1 : (grE g).length = 0 ∨ 60 < (grE g).length
 ·rw [if_pos h1] at h; exact absurd h (by simp)
 rw [if_neg h1] at h
 exact looseFrom_asc h
set_option maxHeartbeats 1000000 in
theorem Target_spec (g : GraphD) (i : Nat) (k : Int) (hi : i < g.nodes.length) (ha : ∀ n ∈ g.nodes, Asc n.links ∧ n.links.length ≤ 1000000) : FnV Tryd.prog 66 #[graphV g, iv i, iv k] [graphD g] (iv (tgtAt (grE g) i k)) := by
 refine FnV.body1 (args := [graphV g, iv i, iv k]) 32 Tryd.func66 rfl Tryd.ntmps66 rfl (fun c => ?_)
 refine St.seq ?_
 refine St.openD (graphD g) (fun _ : Unit => graphL g) (fun ρ h => ⟨(), h⟩) fun _ => ?_
 refine St.cast (H' := [dat (sl nodeR g.nv.1 g.nodes), dat (dall nodeD g.nodes), dat (graphD g)]) rfl ?_
 obtain ⟨t, ht⟩ := some_of_lt hi
 have htm := List.mem_of_getElem? ht
 refine St.dallAt nodeD g.nodes (x := t) htm ?_
 refine St.mkD (sl linkR t.lv.1 t.links) [nodeD t] (fun ρ h => h _ (List.mem_cons_self ..)) ?_
 have hnd : (grE g).getD i nd0 = ndE t := by rw [List.getD_eq_getElem?_getD, grE_at ht]; rfl
 have hta : tgtAt (grE g) i k = match (t.links.map lkE).find? (fun x => x.1 == k) with | some x => x.2 | none => -1 := by unfold tgtAt; rw [hnd]; rfl
 obtain ⟨hasc, hll⟩ := ha t htm
 refine St.rg ?_
 refine St.boxA (.mk rfl) rfl (fun b3 => ?_)
 refine St.asg ?_
 refine St.nil (St.then_normal (St.seq (St.rg ?_)))
 refine St.ev _ (Ev.fldb0 (.mk rfl) fo30_0) rfl ?_
 refine St.ev _ (Ev.ldb (.mk rfl) Tryd.underlying28 trivial (by rfl)) rfl ?_
 refine St.mv ?_
 refine St.ev _ (Ev.idxaddr (k := i) (.mk rfl) (.mk rfl) Tryd.underlying28 sz116 (by omega) (by omega)) rfl ?_
 refine St.ev _ (Ev.fldel (.mk rfl) (by omega) fo116_1) rfl ?_
 refine St.ev _ (Ev.ld1 (.mk rfl) ht Tryd.underlying114 trivial rfl) rfl ?_
 refine St.mv ?_
 refine St.calld (BSF_spec t.lv.1 t.links k hasc hll) cb77 (.cons (.mk rfl) (.cons (.mk rfl) (.cons (.mk rfl) .nil))) rfl ?_
 rintro v17 _ ⟨⟨j, b, rfl, hbt, hbf⟩, rfl⟩
 refine St.app0 ?_
 refine St.mv ?_
 refine St.ev _ (Ev.extract (.mk rfl) rfl) rfl ?_
 refine St.ev _ (Ev.extract (.mk rfl) rfl) rfl ?_
 refine St.asg ?_
 refine St.asg ?_
 refine St.nil (St.then_normal (St.seq (St.seq (St.rg ?_))))
 refine St.mv ?_
 refine St.ev _ (Ev.not (.mk rfl)) rfl ?_
 refine St.nil (St.then_normal ?_)
 refine St.cond _ rfl (fun h21 => ?_) (fun h21 => ?_)
 ·skip
  skip
  have hb0 : b = false := by simpa using h21
  rw [tgt_miss (hbf hb0)] at hta
  refine St.seq (St.rg ?_)
  refine St.asg ?_
  refine St.nil (St.then_normal (St.rett (St.then_ret ?_)))
  refine St.rets [_] [] Tryd.results66 ⟨rfl, trivial⟩ ?_ (fun _ hw => hw.sub)
  exact ie hta.symm
 ·skip
  skip
  have hb1 : b = true := by simpa using h21
  obtain ⟨x, hx, hxk⟩ := hbt hb1
  have hjl := lt_of_some hx
  rw [tgt_hit hasc hx hxk] at hta
  refine St.skip (St.then_normal (St.seq (St.rg ?_)))
  refine St.ev _ (Ev.fldb0 (.mk rfl) fo30_0) rfl ?_
  refine St.ev _ (Ev.ldb (.mk rfl) Tryd.underlying28 trivial (by rfl)) rfl ?_
  refine St.mv ?_
  refine St.ev _ (Ev.idxaddr (k := i) (.mk rfl) (.mk rfl) Tryd.underlying28 sz116 (by omega) (by omega)) rfl ?_
  refine St.ev _ (Ev.fldel (.mk rfl) (by omega) fo116_1) rfl ?_
  refine St.ev _ (Ev.ld1 (.mk rfl) ht Tryd.underlying114 trivial rfl) rfl ?_
  refine St.mv ?_
  refine St.ev _ (Ev.idxaddr (k := j) (.mk rfl) (.mk rfl) Tryd.underlying114 sz118 (by omega) (by omega)) rfl ?_
  refine St.ev _ (Ev.fldel (.mk rfl) (by omega) fo118_1) rfl ?_
  refine St.ev _ (Ev.ld1 (.mk rfl) hx Tryd.underlying3 trivial rfl) rfl ?_
  refine St.asg ?_
  refine St.nil (St.then_normal (St.rett ?_))
  refine St.rets [_] [] Tryd.results66 ⟨rfl, trivial⟩ ?_ (fun _ hw => hw.sub)
  exact ie hta.symm
end Go.Proofs.YtolmidffiegkaaaDoor

/-
  (YtolmidffiegkaaaDoorQ20)
  The walk of the check of a rule's places.
  Conditions: none beyond the sizes.
-/
set_option maxRecDepth 20000
set_option linter.unusedSimpArgs false
set_option linter.unusedVariables false
namespace Go.Proofs.YtolmidffiegkaaaDoor
open Go Go.J
theorem Places_spec (g : GraphD) (kids : Int) (hn : 0 < g.nodes.length) (ha : ∀ n ∈ g.nodes, Asc n.links ∧ n.links.length ≤ 1000000) : FnV Tryd.prog 54 #[graphV g, iv kids] [graphD g] (.bool (placesB (grE g) kids)) := by
 refine FnV.body1 (args := [graphV g, iv kids]) 18 Tryd.func54 rfl Tryd.ntmps54 rfl (fun c => ?_)
 refine St.seq (St.rg ?_)
 refine St.boxA (.mk rfl) rfl (fun b2 => ?_)
 refine St.asg ?_
 refine St.nil (St.then_normal (St.seq (St.seq (St.rg ?_))))
 refine St.mv ?_
 refine St.nil (St.then_normal (St.block ?_))
 refine St.loopS (ι := Nat) (fun k T => (6, iv k) :: T) (fun k => k ≤ 4 ∧ ∀ j, j < k → (decide (0 ≤ tgt (grE g) (j : Nat)) == decide (((j : Nat) : Int) ≤ kids)) = true) (fun k => 4 - k) 0 (Keep.cons 1 rfl (Keep.cons 2 rfl Keep.nil)) ⟨Nat.zero_le _, fun j hj => absurd hj (by omega)⟩ (by repeat (first | exact Sub.nil | refine Sub.cons (by first | rfl | exact congrArg (fun z => some (iv z)) (by first | omega | (dsimp only; omega)) | exact congrArg (fun z => some (Value.bool z)) (by first | assumption | exact Eq.symm (by assumption))) ?_)) ?_
 intro k hphi
 obtain ⟨hk, hin⟩ := hphi
 refine St.seq (St.rg ?_)
 refine St.ev _ (Ev.lss (.mk rfl) (.mk rfl)) rfl ?_
 refine St.nil (St.then_normal (St.seq ?_))
 refine St.cond _ rfl (fun h7 => ?_) (fun h7 => ?_)
 ·skip
  try simp only [jbAll] at h7
  refine St.skip (St.then_normal (St.seq (St.block (St.seq (St.rg ?_)))))
  refine St.mv ?_
  refine St.asg ?_
  refine St.nil (St.then_normal (St.seq (St.rg ?_)))
  refine St.ev _ (Ev.ldbA (.mk rfl) Tryd.underlying30 trivial (by exact sz30)) rfl ?_
  refine St.mv ?_
  refine St.ev _ (Ev.call (Target_spec g 0 k hn ha) cb66 (.cons (.mk rfl) (.cons (.mk rfl) (.cons (.mk rfl) .nil)))) rfl ?_
  refine St.ev _ (Ev.geq (.mk rfl) (.mk rfl)) rfl ?_
  refine St.mv ?_
  refine St.mv ?_
  refine St.ev _ (Ev.leq (.mk rfl) (.mk rfl)) rfl ?_
  refine St.ev _ (Ev.boolneq (.mk rfl) (.mk rfl) Tryd.underlying4) rfl ?_
  refine St.nil (St.then_normal ?_)
  refine St.cond _ rfl (fun h16 => ?_) (fun h16 => ?_)
  ·skip
   skip
   have hke : (decide (0 ≤ tgt (grE g) (k : Nat)) == decide (((k : Nat) : Int) ≤ kids)) = false := by rw [beq_eq_false_iff_ne]; simp [tgt_at] at h16; exact h16
   refine St.seq (St.rg ?_)
   refine St.asg ?_
   refine St.nil (St.then_normal (St.rett (St.in_ret (St.then_ret (St.then_ret (St.in_ret (St.then_ret ?_)))))))
   refine St.rets [_] [] Tryd.results54 ⟨rfl, trivial⟩ ?_ (fun _ hw => hw.sub)
   exact be (by unfold placesB; symm; rw [List.all_eq_false]; exact ⟨k, List.mem_range.2 (by omega), by rw [hke]; decide⟩)
  ·skip
   skip
   have hke : (decide (0 ≤ tgt (grE g) (k : Nat)) == decide (((k : Nat) : Int) ≤ kids)) = true := by rw [beq_iff_eq]; simp [tgt_at] at h16; exact h16
   refine St.skip (St.in_normal (St.then_normal (St.rg ?_)))
   refine St.ev _ (Ev.add (.mk rfl) (.mk rfl) (by omega)) rfl ?_
   refine St.mv ?_
   refine St.nil (St.then_normal ?_)
   refine St.againS (k + 1) ⟨by omega, fun j hj => by rcases Nat.lt_or_ge j k with h | h; exact hin j h; rw [show j = k by omega]; exact hke⟩ (by first | omega | (dsimp only; omega)) (by repeat (first | exact Sub.nil | refine Sub.cons (by first | rfl | exact congrArg (fun z => some (iv z)) (by first | omega | (dsimp only; omega)) | exact congrArg (fun z => some (Value.bool z)) (by first | assumption | exact Eq.symm (by assumption))) ?_)) (fun _ hw => hw.sub)
 ·skip
  try simp only [jbAll] at h7
  refine St.exit (St.then_exit (St.then_exit (St.in_hit (St.then_normal (St.seq (St.rg ?_))))))
  refine St.asg ?_
  refine St.nil (St.then_normal (St.rett ?_))
  refine St.rets [_] [] Tryd.results54 ⟨rfl, trivial⟩ ?_ (fun _ hw => hw.sub)
  exact be (by unfold placesB; symm; rw [List.all_eq_true]; intro j hj; exact hin j (by have := List.mem_range.1 hj; omega))
end Go.Proofs.YtolmidffiegkaaaDoor

/-
  (YtolmidffiegkaaaDoorQ21)
  What the checks of rules and entries want: few links, features in range.
  Conditions: none.
-/
set_option maxRecDepth 20000
set_option linter.unusedSimpArgs false
set_option linter.unusedVariables false
namespace Go.Proofs.YtolmidffiegkaaaDoor
open Go Go.J
theorem asc_ge {l : List LinkD} (ha : Asc l) (h0 : ∀ x ∈ l, 0 ≤ x.feat) : ∀ (i : Nat) (x : LinkD), l[i]? = some x → (i : Int) ≤ x.feat
 | 0, x, hx => h0 x (List.mem_of_getElem? hx)
 | i + 1, x, hx => by
  obtain ⟨y, hy⟩ := some_of_lt (show i < l.length by have := lt_of_some hx; omega)
  have h1 := asc_ge ha h0 i y hy
  have h2 := ha i (i + 1) y x (Nat.lt_succ_self i) hy hx
  omega
theorem asc_len {l : List LinkD} (ha : Asc l) {nf : Nat} (h0 : ∀ x ∈ l, 0 ≤ x.feat ∧ x.feat < nf) : l.length ≤ nf := by
 rcases Nat.eq_zero_or_pos l.length with h | h
 ·omega
 ·obtain ⟨y, hy⟩ := some_of_lt (show l.length - 1 < l.length by omega)
  have h1 := asc_ge ha (fun x hx => (h0 x hx).1) _ y hy
  have h2 := (h0 y (List.mem_of_getElem? hy)).2
  omega
theorem ftFrom_ok {n : Int} : ∀ {l : List Ft0} {known : List Str} {i : Nat}, (ftFrom n known i l).1 = 0 → ∀ f ∈ l, 0 ≤ f.2.1 ∧ f.2.1 < n ∧ 0 ≤ f.2.2 ∧ f.2.2 < n
 | [], _, _, _ => fun f hf => by cases hf
 | t :: l, known, i, h => by
  rw [ftFrom] at h
  by_cases h1 : isName t.1 = false
  ·rw [if_pos h1] at h; exact absurd h (by simp)
  rw [if_neg h1] at h
  by_cases h2 : t.1 ∈ known
  ·rw [if_pos h2] at h; exact absurd h (by simp)
  rw [if_neg h2] at h
  by_cases h3 : t.2.1 < 0 ∨ n ≤ t.2.1 ∨ t.2.2 < 0 ∨ n ≤ t.2.2
  ·rw [if_pos h3] at h; exact absurd h (by simp)
  rw [if_neg h3] at h
  intro f hf
  rcases List.mem_cons.1 hf with rfl | hf
  ·omega
  ·exact ftFrom_ok h f hf
theorem hier_ok {T : List Ty0} {Fs : List Ft0} (h : (hierF T Fs).1 = 0) : 0 < T.length ∧ TyOK T ∧ Fs.length ≤ 40 ∧ ∀ f ∈ Fs, 0 ≤ f.2.1 ∧ f.2.1 < T.length ∧ 0 ≤ f.2.2 ∧ f.2.2 < T.length := by
 unfold hierF at h
 by_cases h1 : 40 < Fs.length
 ·rw [if_pos h1] at h; exact absurd h (by simp)
 rw [if_neg h1] at h
 by_cases h2 : (tyF T).1 ≠ 0
 ·rw [if_pos h2] at h; exact absurd h h2
 rw [if_neg h2] at h
 obtain ⟨_, k1, k2⟩ := tyF_ok (Decidable.not_not.1 h2)
 cases e : unmet T with
 | some b => rw [e] at h; exact absurd h (by simp)
 | none => rw [e] at h; exact ⟨k1, k2, by omega, ftFrom_ok h⟩
end Go.Proofs.YtolmidffiegkaaaDoor

/-
  (YtolmidffiegkaaaDoorMtcR)
  What the check of a query gives; queries with other names; grammars that pass their check.
  Conditions: none.
-/
namespace Go.Proofs.YtolmidffiegkaaaDoor
open Go Go.J
theorem vrFrom_ok : ∀ {vs : List VarD} {known : List Str} {i : Nat}, (vrFrom known i vs).1 = 0 → vrFrom known i vs = (0, 0) ∧ ∀ v ∈ vs, 1 ≤ v.kind ∧ v.kind ≤ 4 ∧ isName v.name = true ∧ (v.kind = 2 → isName v.label = true) ∧ (v.kind = 3 → isWord v.label = true) ∧ ((v.kind = 1 ∨ v.kind = 4) → v.label = [])
 | [], _, _, _ => by rw [vrFrom]; exact ⟨rfl, fun v hv => by cases hv⟩
 | v :: vs, known, i, h => by
  rw [vrFrom] at h ⊢
  by_cases h1 : v.kind < 1 ∨ 4 < v.kind
  ·rw [if_pos h1] at h; exact absurd h (by simp)
  rw [if_neg h1] at h ⊢
  by_cases h2 : isName v.name = false ∨ (v.kind = 2 ∧ isName v.label = false) ∨ (v.kind = 3 ∧ isWord v.label = false)
  ·rw [if_pos h2] at h; exact absurd h (by simp)
  rw [if_neg h2] at h ⊢
  by_cases h3 : v.name ∈ known
  ·rw [if_pos h3] at h; exact absurd h (by simp)
  rw [if_neg h3] at h ⊢
  by_cases h4 : (v.kind = 1 ∨ v.kind = 4) ∧ v.label ≠ []
  ·rw [if_pos h4] at h; exact absurd h (by simp)
  rw [if_neg h4] at h ⊢
  obtain ⟨k1, k2⟩ := vrFrom_ok h
  refine ⟨k1, fun u hu => ?_⟩
  rcases List.mem_cons.1 hu with rfl | hu
  ·simp only [not_or, not_and, Bool.not_eq_false, ne_eq, Decidable.not_not] at h2 h4
   exact ⟨by omega, by omega, h2.1, h2.2.1, h2.2.2, h4⟩
  ·exact k2 u hu
theorem qlFrom_ok {n : Int} : ∀ {ls : List QLnD} {i : Nat}, (qlFrom n i ls).1 = 0 → qlFrom n i ls = (0, 0) ∧ ∀ l ∈ ls, 1 ≤ l.kind ∧ l.kind ≤ 5 ∧ 0 ≤ l.a ∧ l.a < n ∧ 0 ≤ l.b ∧ l.b < n ∧ l.a ≠ l.b
 | [], _, _ => by rw [qlFrom]; exact ⟨rfl, fun v hv => by cases hv⟩
 | l :: ls, i, h => by
  rw [qlFrom] at h ⊢
  by_cases h1 : l.kind < 1 ∨ 5 < l.kind
  ·rw [if_pos h1] at h; exact absurd h (by simp)
  rw [if_neg h1] at h ⊢
  by_cases h2 : l.a < 0 ∨ n ≤ l.a ∨ l.b < 0 ∨ n ≤ l.b
  ·rw [if_pos h2] at h; exact absurd h (by simp)
  rw [if_neg h2] at h ⊢
  by_cases h3 : l.a = l.b
  ·rw [if_pos h3] at h; exact absurd h (by simp)
  rw [if_neg h3] at h ⊢
  obtain ⟨k1, k2⟩ := qlFrom_ok h
  refine ⟨k1, fun u hu => ?_⟩
  rcases List.mem_cons.1 hu with rfl | hu
  ·exact ⟨by omega, by omega, by omega, by omega, by omega, by omega, h3⟩
  ·exact k2 u hu
structure QryOK (vs : List VarD) (ks : List QLnD) : Prop where
 pos : 0 < vs.length
 few : vs.length ≤ 4
 links : ks.length ≤ 8
 var : ∀ v ∈ vs, 1 ≤ v.kind ∧ v.kind ≤ 4 ∧ isName v.name = true ∧ (v.kind = 2 → isName v.label = true) ∧ (v.kind = 3 → isWord v.label = true) ∧ ((v.kind = 1 ∨ v.kind = 4) → v.label = [])
 link : ∀ l ∈ ks, 1 ≤ l.kind ∧ l.kind ≤ 5 ∧ 0 ≤ l.a ∧ l.a < vs.length ∧ 0 ≤ l.b ∧ l.b < vs.length ∧ l.a ≠ l.b
theorem qryF_ok {vs : List VarD} {ks : List QLnD} (h : (qryF vs ks).1 = 0) : qryF vs ks = (0, 0) ∧ QryOK vs ks := by
 unfold qryF at h ⊢
 by_cases h1 : 4 < vs.length ∨ 8 < ks.length
 ·rw [if_pos h1] at h; exact absurd h (by simp)
 rw [if_neg h1] at h ⊢
 by_cases h2 : vs.length = 0
 ·rw [if_pos h2] at h; exact absurd h (by simp)
 rw [if_neg h2] at h ⊢
 by_cases h3 : (vrFrom [] 0 vs).1 ≠ 0
 ·rw [if_pos h3] at h; exact absurd h h3
 rw [if_neg h3] at h ⊢
 obtain ⟨k1, k2⟩ := qlFrom_ok h
 exact ⟨k1, by omega, by omega, by omega, (vrFrom_ok (Decidable.not_not.1 h3)).2, k2⟩
def nmQ (i : Nat) : Str := [113, UInt8.ofNat (48 + i)]
def renF : Nat → List VarD → List VarD
 | _, [] => []
 | i, v :: vs => ⟨nmQ i, v.kind, v.label⟩ :: renF (i + 1) vs
theorem renF_len : ∀ (vs : List VarD) (i : Nat), (renF i vs).length = vs.length
 | [], _ => rfl
 | v :: vs, i => by rw [renF, List.length_cons, renF_len vs, List.length_cons]
theorem renF_same : ∀ (vs : List VarD) (i : Nat), (renF i vs).map (fun v => (v.kind, v.label)) = vs.map (fun v => (v.kind, v.label))
 | [], _ => rfl
 | v :: vs, i => by rw [renF, List.map_cons, renF_same vs, List.map_cons]
theorem nmQ_ok : ∀ i, i < 4 → isName (nmQ i) = true ∧ nmQ i ∉ (List.range i).map nmQ := by decide
theorem vrFrom_ren : ∀ {vs : List VarD} {known : List Str} {i : Nat}, (vrFrom known i vs).1 = 0 → i + vs.length ≤ 4 → vrFrom ((List.range i).map nmQ) i (renF i vs) = (0, 0)
 | [], _, _, _, _ => by rw [renF, vrFrom]
 | v :: vs, known, i, h, hi => by
  rw [List.length_cons] at hi
  have hv := (vrFrom_ok h).2 v (List.mem_cons_self ..)
  obtain ⟨n1, n2⟩ := nmQ_ok i (by omega)
  have ht : (vrFrom (known ++ [v.name]) (i + 1) vs).1 = 0 := by
   rw [vrFrom] at h
   split at h
   ·exact absurd h (by simp)
   split at h
   ·exact absurd h (by simp)
   split at h
   ·exact absurd h (by simp)
   split at h
   ·exact absurd h (by simp)
   exact h
  have ih := vrFrom_ren ht (by omega)
  rw [List.range_succ, List.map_append, List.map_cons, List.map_nil] at ih
  obtain ⟨a1, a2, a3, a4, a5, a6⟩ := hv
  rw [renF, vrFrom, if_neg (by dsimp only; omega), if_neg, if_neg n2, if_neg, ih]
  ·rintro ⟨h1, h2⟩; exact h2 (a6 h1)
  ·dsimp only
   rintro (h1 | ⟨h1, h2⟩ | ⟨h1, h2⟩)
   ·rw [n1] at h1; cases h1
   ·rw [a4 h1] at h2; cases h2
   ·rw [a5 h1] at h2; cases h2
theorem qryF_ren {vs : List VarD} {ks : List QLnD} (h : (qryF vs ks).1 = 0) : qryF (renF 0 vs) ks = (0, 0) := by
 obtain ⟨h0, hq⟩ := qryF_ok h
 have h1 := hq.few
 have h2 := hq.links
 have h3 := hq.pos
 unfold qryF at h h0 ⊢
 rw [if_neg (by omega), if_neg (by omega)] at h h0
 rw [renF_len, if_neg (by omega), if_neg (by omega)]
 by_cases h4 : (vrFrom [] 0 vs).1 ≠ 0
 ·rw [if_pos h4] at h; exact absurd h h4
 rw [if_neg h4] at h0
 have e := vrFrom_ren (Decidable.not_not.1 h4) (by omega)
 rw [List.range_zero, List.map_nil] at e
 rw [e, if_neg (by simp), h0]
def matchL (g : Gm0) (vs : List VarD) (ks : List QLnD) (t : Tr0) : List (List Nat) := extsF (ndT g t 0 (-1) 0) ks vs []
def matF (g : Gm0) (vs : List VarD) (ks : List QLnD) (t : Tr0) : List (List Nat) × (Int × Int) :=
 if (grmF g).1 ≠ 0 then ([], grmF g) else if (qryF vs ks).1 ≠ 0 then ([], qryF vs ks) else if (treeF g t).1 ≠ 0 then ([], treeF g t)
 else if 500 < (matchL g vs ks t).length then ([], (17, 0)) else (matchL g vs ks t, (0, 0))
theorem ruFrom_ok {T : List Ty0} {Fs : List Ft0} : ∀ {l : List Ru0} {known : List Str} {i : Nat}, (ruFrom T Fs known i l).1 = 0 → ∀ r ∈ l, 1 ≤ r.kids ∧ r.kids ≤ 3 ∧ 0 ≤ r.weight ∧ isName r.name = true
 | [], _, _, _ => fun r hr => by cases hr
 | r :: l, known, i, h => by
  rw [ruFrom] at h
  by_cases h1 : isName r.name = false
  ·rw [if_pos h1] at h; exact absurd h (by simp)
  rw [if_neg h1] at h
  by_cases h2 : r.name ∈ known
  ·rw [if_pos h2] at h; exact absurd h (by simp)
  rw [if_neg h2] at h
  by_cases h3 : ruleF T Fs r ≠ 0
  ·rw [if_pos h3] at h; exact absurd h h3
  rw [if_neg h3] at h
  intro u hu
  rcases List.mem_cons.1 hu with rfl | hu
  ·have h4 := Decidable.not_not.1 h3
   unfold ruleF at h4
   by_cases h5 : u.kids < 1 ∨ 3 < u.kids ∨ u.weight < 0 ∨ 1000000 < u.weight
   ·rw [if_pos h5] at h4; exact absurd h4 (by simp)
   ·exact ⟨by omega, by omega, by omega, by simpa using h1⟩
  ·exact ruFrom_ok h u hu
theorem lxFrom_ok {T : List Ty0} {Fs : List Ft0} : ∀ {l : List Lx0} {i : Nat}, (lxFrom T Fs i l).1 = 0 → ∀ x ∈ l, isWord x.word = true
 | [], _, _ => fun r hr => by cases hr
 | x :: l, i, h => by
  rw [lxFrom] at h
  by_cases h3 : lexF T Fs x ≠ 0
  ·rw [if_pos h3] at h; exact absurd h h3
  rw [if_neg h3] at h
  intro u hu
  rcases List.mem_cons.1 hu with rfl | hu
  ·have h4 := Decidable.not_not.1 h3
   unfold lexF at h4
   by_cases h5 : isWord u.word = false
   ·rw [if_pos h5] at h4; exact absurd h4 (by simp)
   ·simpa using h5
  ·exact lxFrom_ok h u hu
structure GrmOK (g : Gm0) : Prop where
 rules : g.rules.length ≤ 40
 lexes : g.lexes.length ≤ 100
 rule : ∀ r ∈ g.rules, 1 ≤ r.kids ∧ r.kids ≤ 3 ∧ 0 ≤ r.weight ∧ isName r.name = true
 word : ∀ x ∈ g.lexes, isWord x.word = true
theorem grmF_ok {g : Gm0} (h : (grmF g).1 = 0) : GrmOK g := by
 unfold grmF at h
 by_cases h1 : (hierF g.types g.feats).1 ≠ 0
 ·rw [if_pos h1] at h; exact absurd h h1
 rw [if_neg h1] at h
 by_cases h2 : g.feats.length ≤ 3
 ·rw [if_pos h2] at h; exact absurd h (by simp)
 rw [if_neg h2] at h
 by_cases h3 : 40 < g.rules.length ∨ 100 < g.lexes.length
 ·rw [if_pos h3] at h; exact absurd h (by simp)
 rw [if_neg h3] at h
 by_cases h4 : (ruFrom g.types g.feats [] 0 g.rules).1 ≠ 0
 ·rw [if_pos h4] at h; exact absurd h h4
 rw [if_neg h4] at h
 by_cases h5 : (lxFrom g.types g.feats 0 g.lexes).1 ≠ 0
 ·rw [if_pos h5] at h; exact absurd h h5
 exact ⟨by omega, by omega, ruFrom_ok (Decidable.not_not.1 h4), lxFrom_ok (Decidable.not_not.1 h5)⟩
structure TreeGd (g : Gm0) (t : Tr0) : Prop where
 good : goodT g.rules.length g.lexes.length t
 size : nzT t ≤ 200
 leaves : lvT t ≤ 12
theorem treeF_ok {g : Gm0} {t : Tr0} (hg : (grmF g).1 = 0) (h : (treeF g t).1 = 0) : TreeGd g t := by
 have hk : ∀ k ∈ g.rules.map Ru0.kids, 1 ≤ k := fun k hk => by
  obtain ⟨r, hr, rfl⟩ := List.mem_map.1 hk
  exact ((grmF_ok hg).rule r hr).1
 unfold treeF at h
 by_cases h1 : (trW (g.rules.map Ru0.kids) g.lexes.length t 1 0 ⟨0, 0⟩).2.1 ≠ 0
 ·rw [if_pos h1] at h; exact absurd h h1
 rw [if_neg h1] at h
 obtain ⟨k1, k2, k3, k4⟩ := trW_ok hk t 1 0 ⟨0, 0⟩ (Decidable.not_not.1 h1)
 by_cases h2 : 12 < (trW (g.rules.map Ru0.kids) g.lexes.length t 1 0 ⟨0, 0⟩).1.leaves
 ·rw [if_pos h2] at h; exact absurd h (by simp)
 rw [List.length_map] at k1
 dsimp only at k2 k4
 exact ⟨k1, by omega, by omega⟩
end Go.Proofs.YtolmidffiegkaaaDoor

/-
  (YtolmidffiegkaaaDoorFactsR)
  Closed facts on the tables of the program: sizes, zero values, where fields lie, which functions have bodies.
  Conditions: none.
-/
set_option maxRecDepth 20000
set_option linter.unusedSimpArgs false
set_option linter.unusedVariables false
namespace Go.Proofs.YtolmidffiegkaaaDoor
open Go Go.J
theorem fo82_0 : fieldOff Tryd.prog 82 0 = some 0 := by kernel_rfl
theorem cb44 : Callable Tryd.prog 44 := ⟨_, Tryd.func44, rfl, by kernel_rfl⟩
theorem fo82_2 : fieldOff Tryd.prog 82 2 = some 2 := by kernel_rfl
theorem fo82_1 : fieldOff Tryd.prog 82 1 = some 1 := by kernel_rfl
theorem cb43 : Callable Tryd.prog 43 := ⟨_, Tryd.func43, rfl, by kernel_rfl⟩
theorem fo82_3 : fieldOff Tryd.prog 82 3 = some 3 := by kernel_rfl
theorem cb55 : Callable Tryd.prog 55 := ⟨_, Tryd.func55, rfl, by kernel_rfl⟩
theorem fo91_2 : fieldOff Tryd.prog 91 2 = some 2 := by kernel_rfl
theorem fo91_3 : fieldOff Tryd.prog 91 3 = some 3 := by kernel_rfl
theorem fo91_1 : fieldOff Tryd.prog 91 1 = some 1 := by kernel_rfl
theorem cb54 : Callable Tryd.prog 54 := ⟨_, Tryd.func54, rfl, by kernel_rfl⟩
theorem fo91_4 : fieldOff Tryd.prog 91 4 = some 4 := by kernel_rfl
theorem cb37 : Callable Tryd.prog 37 := ⟨_, Tryd.func37, rfl, by kernel_rfl⟩
theorem cb38 : Callable Tryd.prog 38 := ⟨_, Tryd.func38, rfl, by kernel_rfl⟩
theorem fo91_0 : fieldOff Tryd.prog 91 0 = some 0 := by kernel_rfl
theorem cb41 : Callable Tryd.prog 41 := ⟨_, Tryd.func41, rfl, by kernel_rfl⟩
theorem cb42 : Callable Tryd.prog 42 := ⟨_, Tryd.func42, rfl, by kernel_rfl⟩
theorem fo49_0 : fieldOff Tryd.prog 49 0 = some 0 := by kernel_rfl
theorem fo49_1 : fieldOff Tryd.prog 49 1 = some 1 := by kernel_rfl
theorem cb21 : Callable Tryd.prog 21 := ⟨_, Tryd.func21, rfl, by kernel_rfl⟩
theorem sz38 : (Tryd.prog.info? 38).map (·.size) = some 3 := by kernel_rfl
theorem zc38 : (Tryd.prog.info? 38).bind (fun i => i.zero.map Value.cells) = some #[.string ⟨#[]⟩, .int .i64 0, .string ⟨#[]⟩] := by kernel_rfl
theorem fo38_0 : fieldOff Tryd.prog 38 0 = some 0 := by kernel_rfl
theorem fo38_1 : fieldOff Tryd.prog 38 1 = some 1 := by kernel_rfl
theorem fo38_2 : fieldOff Tryd.prog 38 2 = some 2 := by kernel_rfl
theorem sz46 : (Tryd.prog.info? 46).map (·.size) = some 3 := by kernel_rfl
theorem zc46 : (Tryd.prog.info? 46).bind (fun i => i.zero.map Value.cells) = some #[.int .i64 0, .int .i64 0, .int .i64 0] := by kernel_rfl
theorem fo46_0 : fieldOff Tryd.prog 46 0 = some 0 := by kernel_rfl
theorem fo46_1 : fieldOff Tryd.prog 46 1 = some 1 := by kernel_rfl
theorem fo46_2 : fieldOff Tryd.prog 46 2 = some 2 := by kernel_rfl
theorem cb46 : Callable Tryd.prog 46 := ⟨_, Tryd.func46, rfl, by kernel_rfl⟩
theorem fo35_0 : fieldOff Tryd.prog 35 0 = some 0 := by kernel_rfl
theorem fo35_1 : fieldOff Tryd.prog 35 1 = some 1 := by kernel_rfl
theorem fo35_2 : fieldOff Tryd.prog 35 2 = some 2 := by kernel_rfl
theorem sz35 : (Tryd.prog.info? 35).map (·.size) = some 3 := by kernel_rfl
theorem zc35 : (Tryd.prog.info? 35).bind (fun i => i.zero.map Value.cells) = some #[.int .i64 0, .int .i64 0, .slice none 0 0] := by kernel_rfl
theorem cb45 : Callable Tryd.prog 45 := ⟨_, Tryd.func45, rfl, by kernel_rfl⟩
theorem zc110 : (Tryd.prog.info? 110).bind (fun i => i.zero.map Value.cells) = some #[.nilFunc] := by kernel_rfl
theorem sz110 : (Tryd.prog.info? 110).map (·.size) = some 1 := by kernel_rfl
theorem pl71 (w : World) : placesRun Tryd.prog 71 w = .ok #[(0, 1), (1, 1), (2, 1), (3, 1), (4, 1), (5, 1)] w := by kernel_rfl
theorem zc71 : (Tryd.prog.info? 71).bind (fun i => i.zero.map Value.cells) = some #[.bool false, .string ⟨#[]⟩, .int .i64 0, .int .i64 0, .int .i64 0, .int .i64 0] := by kernel_rfl
theorem sz71 : (Tryd.prog.info? 71).map (·.size) = some 6 := by kernel_rfl
theorem zv71 : (Tryd.prog.info? 71).bind (·.zero) = some (Value.agg #[.bool false, .string ⟨#[]⟩, .int .i64 0, .int .i64 0, .int .i64 0, .int .i64 0]) := by kernel_rfl
theorem by71 : (Tryd.prog.info? 71).map (·.bytes) = some 56 := by kernel_rfl
theorem sz66 : (Tryd.prog.info? 66).map (·.size) = some 1 := by kernel_rfl
theorem fo71_0 : fieldOff Tryd.prog 71 0 = some 0 := by kernel_rfl
theorem fo71_1 : fieldOff Tryd.prog 71 1 = some 1 := by kernel_rfl
theorem cb47 : Callable Tryd.prog 47 := ⟨_, Tryd.func47, rfl, by kernel_rfl⟩
theorem fo71_3 : fieldOff Tryd.prog 71 3 = some 3 := by kernel_rfl
theorem fo71_5 : fieldOff Tryd.prog 71 5 = some 5 := by kernel_rfl
theorem zc66 : (Tryd.prog.info? 66).bind (fun i => i.zero.map Value.cells) = some #[.slice none 0 0] := by kernel_rfl
theorem zc111 : (Tryd.prog.info? 111).bind (fun i => i.zero.map Value.cells) = some #[.nilFunc] := by kernel_rfl
theorem sz111 : (Tryd.prog.info? 111).map (·.size) = some 1 := by kernel_rfl
theorem fo71_2 : fieldOff Tryd.prog 71 2 = some 2 := by kernel_rfl
theorem fo71_4 : fieldOff Tryd.prog 71 4 = some 4 := by kernel_rfl
theorem by57 : (Tryd.prog.info? 57).map (·.bytes) = some 24 := by kernel_rfl
theorem sz40 : (Tryd.prog.info? 40).map (·.size) = some 1 := by kernel_rfl
theorem cb19 : Callable Tryd.prog 19 := ⟨_, Tryd.func19, rfl, by kernel_rfl⟩
theorem cb20 : Callable Tryd.prog 20 := ⟨_, Tryd.func20, rfl, by kernel_rfl⟩
theorem cb18 : Callable Tryd.prog 18 := ⟨_, Tryd.func18, rfl, by kernel_rfl⟩
theorem cb14 : Callable Tryd.prog 14 := ⟨_, Tryd.func14, rfl, by kernel_rfl⟩
theorem sz49 : (Tryd.prog.info? 49).map (·.size) = some 2 := by kernel_rfl
theorem cb15 : Callable Tryd.prog 15 := ⟨_, Tryd.func15, rfl, by kernel_rfl⟩
theorem cb16 : Callable Tryd.prog 16 := ⟨_, Tryd.func16, rfl, by kernel_rfl⟩
theorem cb17 : Callable Tryd.prog 17 := ⟨_, Tryd.func17, rfl, by kernel_rfl⟩
theorem zc40 : (Tryd.prog.info? 40).bind (fun i => i.zero.map Value.cells) = some #[.slice none 0 0] := by kernel_rfl
theorem zc57 : (Tryd.prog.info? 57).bind (fun i => i.zero.map Value.cells) = some #[.slice none 0 0] := by kernel_rfl
theorem zc68 : (Tryd.prog.info? 68).bind (fun i => i.zero.map Value.cells) = some #[.nilFunc] := by kernel_rfl
theorem sz68 : (Tryd.prog.info? 68).map (·.size) = some 1 := by kernel_rfl
theorem by9 : (Tryd.prog.info? 9).map (·.bytes) = some 16 := by kernel_rfl
theorem cb10 : Callable Tryd.prog 10 := ⟨_, Tryd.func10, rfl, by kernel_rfl⟩
theorem pl35 (w : World) : placesRun Tryd.prog 35 w = .ok #[(0, 1), (1, 1), (2, 1)] w := by kernel_rfl
theorem zv35 : (Tryd.prog.info? 35).bind (·.zero) = some (Value.agg #[.int .i64 0, .int .i64 0, .slice none 0 0]) := by kernel_rfl
theorem bld71_2_4 {u2 u4 : Value} (h2 : u2.oneCell' = true) (h4 : u4.oneCell' = true) (w : World) : (Instr.build 71 #[(2, u2), (4, u4)]).run Tryd.prog w = .ok (.agg #[.bool false, .string ⟨#[]⟩, u2, .int .i64 0, u4, .int .i64 0]) w :=
 run_buildS zc71 (pl71 w) (by simp [Instr.fill, J.cells_agg, J.cells_one h2, J.cells_one h4])
theorem bld35_0_1 {u0 u1 : Value} (h0 : u0.oneCell' = true) (h1 : u1.oneCell' = true) (w : World) : (Instr.build 35 #[(0, u0), (1, u1)]).run Tryd.prog w = .ok (.agg #[u0, u1, .slice none 0 0]) w :=
 run_buildS zc35 (pl35 w) (by simp [Instr.fill, J.cells_agg, J.cells_one h0, J.cells_one h1])
theorem bld35_0_2 {u0 u2 : Value} (h0 : u0.oneCell' = true) (h2 : u2.oneCell' = true) (w : World) : (Instr.build 35 #[(0, u0), (2, u2)]).run Tryd.prog w = .ok (.agg #[u0, .int .i64 0, u2]) w :=
 run_buildS zc35 (pl35 w) (by simp [Instr.fill, J.cells_agg, J.cells_one h0, J.cells_one h2])
theorem bld35_2 {u2 : Value} (h2 : u2.oneCell' = true) (w : World) : (Instr.build 35 #[(2, u2)]).run Tryd.prog w = .ok (.agg #[.int .i64 0, .int .i64 0, u2]) w :=
 run_buildS zc35 (pl35 w) (by simp [Instr.fill, J.cells_agg, J.cells_one h2])
end Go.Proofs.YtolmidffiegkaaaDoor

/-
  (YtolmidffiegkaaaDoorQ26)
  The walk of the check of a tree.
  Conditions: none beyond the sizes.
-/
set_option maxRecDepth 20000
set_option linter.unusedSimpArgs false
set_option linter.unusedVariables false
namespace Go.Proofs.YtolmidffiegkaaaDoor
open Go Go.J
mutual
theorem trW_sz {rk : List Int} {nl : Nat} : ∀ (t : Tr0) (d ch : Nat) (s : TrS), (trW rk nl t d ch s).2.1 = 0 → s.leaves ≤ s.nodes → (trW rk nl t d ch s).1.nodes ≤ 200 ∧ (trW rk nl t d ch s).1.leaves ≤ (trW rk nl t d ch s).1.nodes
 | .mk r x l, d, ch, s, h, hs => by
  rw [trW] at h ⊢
  by_cases h1 : 200 < s.nodes + 1 ∨ 48 < d
  ·rw [if_pos h1] at h; exact absurd h (by simp)
  rw [if_neg h1] at h ⊢
  by_cases h2 : r < -1 ∨ rk.length ≤ r ∨ (r = -1 ∧ (x < 0 ∨ nl ≤ x))
  ·rw [if_pos h2] at h; exact absurd h (by simp)
  rw [if_neg h2] at h ⊢
  by_cases h3 : 0 ≤ r ∧ x ≠ 0
  ·rw [if_pos h3] at h; exact absurd h (by simp)
  rw [if_neg h3] at h ⊢
  by_cases h4 : (l.length : Int) ≠ (if 0 ≤ r then rk.getD r.toNat 0 else 0)
  ·rw [if_pos h4] at h; exact absurd h (by simp)
  rw [if_neg h4] at h ⊢
  by_cases h5 : 3 < (if l.length = 1 then ch + 1 else 0)
  ·rw [if_pos h5] at h; exact absurd h (by simp)
  rw [if_neg h5] at h ⊢
  exact trWL_sz l _ _ _ h (show s.nodes + 1 ≤ 200 by omega) (by dsimp only; split <;> omega)
theorem trWL_sz {rk : List Int} {nl : Nat} : ∀ (l : List Tr0) (d ch : Nat) (s : TrS), (trWL rk nl l d ch s).2.1 = 0 → s.nodes ≤ 200 → s.leaves ≤ s.nodes → (trWL rk nl l d ch s).1.nodes ≤ 200 ∧ (trWL rk nl l d ch s).1.leaves ≤ (trWL rk nl l d ch s).1.nodes
 | [], d, ch, s, _, hs, hl => by rw [trWL]; exact ⟨hs, hl⟩
 | x :: l, d, ch, s, h, hs, hl => by
  rw [trWL] at h ⊢
  by_cases h1 : (trW rk nl x d ch s).2.1 ≠ 0
  ·rw [if_pos h1] at h; exact absurd h h1
  rw [if_neg h1] at h ⊢
  obtain ⟨a1, a2⟩ := trW_sz x d ch s (Decidable.not_not.1 h1) hl
  exact trWL_sz l d ch _ h a1 a2
end
theorem trW_E (rk : List Int) (nl : Nat) (x : TreeD) (d ch : Nat) (s : TrS) : trW rk nl (treeE x) d ch s =
  if 200 < s.nodes + 1 ∨ 48 < d then (⟨s.nodes + 1, s.leaves⟩, 1, (s.nodes : Int))
  else if x.rule < -1 ∨ rk.length ≤ x.rule ∨ (x.rule = -1 ∧ (x.lex < 0 ∨ nl ≤ x.lex)) then (⟨s.nodes + 1, s.leaves⟩, 3, (s.nodes : Int))
  else if 0 ≤ x.rule ∧ x.lex ≠ 0 then (⟨s.nodes + 1, s.leaves⟩, 5, (s.nodes : Int))
  else if (x.kids.length : Int) ≠ (if 0 ≤ x.rule then rk.getD x.rule.toNat 0 else 0) then (⟨s.nodes + 1, if 0 ≤ x.rule then s.leaves else s.leaves + 1⟩, 9, (s.nodes : Int))
  else if 3 < (if x.kids.length = 1 then ch + 1 else 0) then (⟨s.nodes + 1, if 0 ≤ x.rule then s.leaves else s.leaves + 1⟩, 14, (s.nodes : Int))
  else trWL rk nl (x.kids.map treeE) (d + 1) (if x.kids.length = 1 then ch + 1 else 0) ⟨s.nodes + 1, if 0 ≤ x.rule then s.leaves else s.leaves + 1⟩ := by
 cases x with
 | mk r y v l => rw [treeE, treeEL_map, trW, List.length_map]; rfl
theorem trWL_drop {rk : List Int} {nl : Nat} {l : List TreeD} {k : Nat} {y : TreeD} (h : l[k]? = some y) (d ch : Nat) (s : TrS) : trWL rk nl ((l.map treeE).drop k) d ch s = if (trW rk nl (treeE y) d ch s).2.1 ≠ 0 then trW rk nl (treeE y) d ch s else trWL rk nl ((l.map treeE).drop (k + 1)) d ch (trW rk nl (treeE y) d ch s).1 := by
 rw [drop_of_some (show (l.map treeE)[k]? = some (treeE y) by rw [List.getElem?_map, h]; rfl), trWL]
theorem trWL_end {rk : List Int} {nl : Nat} {l : List TreeD} {k : Nat} (h : l.length ≤ k) (d ch : Nat) (s : TrS) : trWL rk nl ((l.map treeE).drop k) d ch s = (s, 0, 0) := by
 rw [List.drop_of_length_le (by rw [List.length_map]; exact h), trWL]
theorem treeF_E (g : GrmD) (t : TreeD) : treeF (gmE g) (treeE t) = if (trW (g.rules.map RuleD.kids) g.lexes.length (treeE t) 1 0 ⟨0, 0⟩).2.1 ≠ 0 then (trW (g.rules.map RuleD.kids) g.lexes.length (treeE t) 1 0 ⟨0, 0⟩).2
  else if 12 < (trW (g.rules.map RuleD.kids) g.lexes.length (treeE t) 1 0 ⟨0, 0⟩).1.leaves then (2, -2) else (0, 0) := by
 have e1 : (gmE g).rules.map Ru0.kids = g.rules.map RuleD.kids := by show (g.rules.map ruE).map Ru0.kids = _; rw [List.map_map]; rfl
 have e2 : (gmE g).lexes.length = g.lexes.length := List.length_map ..
 unfold treeF; rw [e1, e2]
set_option maxHeartbeats 4000000 in
theorem treeWalk_spec (bn bg bl bw : Nat) (g : GrmD) : ∀ (x : TreeD) (d ch : Nat) (s : TrS), treeR.wf x → d ≤ 100 → ch ≤ 100 → s.nodes ≤ 200 → s.leaves ≤ s.nodes → FnH Tryd.prog 45 ([treeV x, iv (d : Nat), iv (ch : Nat)] ++ [Value.pointer (some ⟨bn, 0, none⟩), Value.pointer (some ⟨bg, 0, none⟩), Value.pointer (some ⟨bl, 0, none⟩), Value.pointer (some ⟨bw, 0, none⟩)]).toArray [dat (treeD x), blk bn (.cells [iv ((s.nodes : Nat) : Int)].toArray 3 (0, 0)), blk bg (.cells [g.tv.1, g.fv.1, g.rv.1, g.xv.1, g.start.nv.1].toArray 32 (0, 0)), blk bl (.cells [iv ((s.leaves : Nat) : Int)].toArray 3 (0, 0)), blk bw (.cells [(.func (.func 45) #[] [Value.pointer (some ⟨bn, 0, none⟩), Value.pointer (some ⟨bg, 0, none⟩), Value.pointer (some ⟨bl, 0, none⟩), Value.pointer (some ⟨bw, 0, none⟩)].toArray)].toArray 110 (0, 0)), dat (sl ruleR g.rv.1 g.rules), dat (sl lexR g.xv.1 g.lexes)] (fun v H' => v = fv (trW (g.rules.map RuleD.kids) g.lexes.length (treeE x) d ch s).2 ∧ H' = [blk bn (.cells [iv (((trW (g.rules.map RuleD.kids) g.lexes.length (treeE x) d ch s).1.nodes : Nat) : Int)].toArray 3 (0, 0)), blk bg (.cells [g.tv.1, g.fv.1, g.rv.1, g.xv.1, g.start.nv.1].toArray 32 (0, 0)), blk bl (.cells [iv (((trW (g.rules.map RuleD.kids) g.lexes.length (treeE x) d ch s).1.leaves : Nat) : Int)].toArray 3 (0, 0)), blk bw (.cells [(.func (.func 45) #[] [Value.pointer (some ⟨bn, 0, none⟩), Value.pointer (some ⟨bg, 0, none⟩), Value.pointer (some ⟨bl, 0, none⟩), Value.pointer (some ⟨bw, 0, none⟩)].toArray)].toArray 110 (0, 0))]) := by
 intro x
 induction x using TreeD.ind
 rename_i x ih
 intro d ch s hw hd hch hsn hsl
 refine FnH.body (args := [treeV x, iv (d : Nat), iv (ch : Nat)] ++ [Value.pointer (some ⟨bn, 0, none⟩), Value.pointer (some ⟨bg, 0, none⟩), Value.pointer (some ⟨bl, 0, none⟩), Value.pointer (some ⟨bw, 0, none⟩)]) 118 Tryd.func45 rfl Tryd.ntmps45 rfl (fun c => ?_)
 refine St.seq ?_
 have hsw := trW_E (g.rules.map RuleD.kids) g.lexes.length x d ch s
 have hkl : (g.rules.map RuleD.kids).length = g.rules.length := List.length_map ..
 refine St.openTree x ?_
 refine St.wf x.kv.1 (fun hxw hxl => ?_)
 obtain ⟨sn, sl_⟩ := s
 dsimp only at hsw hsn hsl ⊢
 refine St.wf g.rv.1 (fun _ hgrl => ?_)
 refine St.wf g.xv.1 (fun _ hgxl => ?_)
 generalize hkn : (if 0 ≤ x.rule then (g.rules.map RuleD.kids).getD x.rule.toNat 0 else 0) = kn at hsw
 generalize hlv : (if 0 ≤ x.rule then sl_ else sl_ + 1) = lv at hsw
 generalize hc2 : (if x.kids.length = 1 then ch + 1 else 0) = c2 at hsw
 refine St.rg ?_
 refine St.boxA (.mk rfl) rfl (fun b7 => ?_)
 refine St.alloc zc42 rfl (fun b10 => ?_)
 refine St.nil (St.then_normal (St.seq (St.rg ?_)))
 refine St.ev _ (Ev.ldb (.mk rfl) Tryd.underlying3 trivial (by rfl)) rfl ?_
 refine St.asg ?_
 refine St.nil (St.then_normal (St.seq (St.rg ?_)))
 refine St.ev _ (Ev.ldb (.mk rfl) Tryd.underlying3 trivial (by rfl)) rfl ?_
 refine St.ev _ (Ev.add (.mk rfl) (.mk rfl) (by omega)) rfl ?_
 refine St.store1 (.mk rfl) (.mk rfl) sz3 rfl (by rfl) ?_
 refine St.blkEq bn (L' := [iv ((sn + 1 : Nat) : Int)]) rfl ?_
 refine St.nil (St.then_normal (St.seq (St.rg ?_)))
 refine St.asg ?_
 refine St.nil (St.then_normal ?_)
 refine St.join (ι := Unit) (fun u T => (12, iv kn) :: T) (fun u => [blk b7 (.cells (treeC x).toArray 35 (0, 0)), blk b10 (.cells [iv 0, iv 0].toArray 42 (0, 0)), blk bn (.cells [iv ((sn + 1 : Nat) : Int)].toArray 3 (0, 0)), blk bg (.cells [g.tv.1, g.fv.1, g.rv.1, g.xv.1, g.start.nv.1].toArray 32 (0, 0)), blk bl (.cells [iv ((lv : Nat) : Int)].toArray 3 (0, 0)), blk bw (.cells [(.func (.func 45) #[] [Value.pointer (some ⟨bn, 0, none⟩), Value.pointer (some ⟨bg, 0, none⟩), Value.pointer (some ⟨bl, 0, none⟩), Value.pointer (some ⟨bw, 0, none⟩)].toArray)].toArray 110 (0, 0)), dat (sl treeR x.kv.1 x.kids), dat (dall treeD x.kids), dat (sl ruleR g.rv.1 g.rules), dat (sl lexR g.xv.1 g.lexes)]) (fun u => (trW (g.rules.map RuleD.kids) g.lexes.length (treeE x) d ch ⟨sn, sl_⟩ = if (x.kids.length : Int) ≠ kn then (⟨sn + 1, lv⟩, 9, (sn : Int)) else if 3 < c2 then (⟨sn + 1, lv⟩, 14, (sn : Int)) else trWL (g.rules.map RuleD.kids) g.lexes.length (x.kids.map treeE) (d + 1) c2 ⟨sn + 1, lv⟩) ∧ sn + 1 ≤ 200 ∧ d ≤ 48) (Keep.cons 1 rfl (Keep.cons 2 rfl (Keep.cons 6 rfl (Keep.cons 7 rfl (Keep.cons 10 rfl (Keep.cons 11 rfl Keep.nil)))))) ?_ ?_
 ·skip
  refine St.block (St.seq (St.rg ?_))
  refine St.ev _ (Ev.ldb (.mk rfl) Tryd.underlying3 trivial (by rfl)) rfl ?_
  refine St.ev _ (Ev.gtr (.mk rfl) (.mk rfl)) rfl ?_
  refine St.mv ?_
  refine St.gf _ rfl rfl (fun hg => Ev.move (.mk rfl)) rfl ?_
  refine St.gf _ rfl rfl (fun hg => Ev.gtr (Opd.gv rfl hg) (.mk rfl)) rfl ?_
  refine St.ev _ (Ev.or (.mk rfl) (fun hp => Opd.gv rfl hp)) rfl ?_
  refine St.asg ?_
  refine St.nil (St.then_normal ?_)
  refine St.cond _ rfl (fun h21 => ?_) (fun h21 => ?_)
  ·skip
   try simp only [jbAll] at h21
   rw [if_pos (by omega)] at hsw
   refine St.seq (St.rg ?_)
   refine St.mv ?_
   refine St.ev _ (Ev.call (deriveFault_spec 1 sn) cb46 (.cons (.mk rfl) (.cons (.mk rfl) .nil))) rfl ?_
   refine St.storeA (Opd.mk rfl) (Opd.mk rfl) sz42 (by first | simp only [List.length_cons, List.length_nil] | rfl) rfl ?_
   refine St.nil (St.then_normal (St.rett (St.in_ret (St.then_ret ?_))))
   refine St.rets [_] [blk bn (.cells [iv ((sn + 1 : Nat) : Int)].toArray 3 (0, 0)), blk bg (.cells [g.tv.1, g.fv.1, g.rv.1, g.xv.1, g.start.nv.1].toArray 32 (0, 0)), blk bl (.cells [iv ((sl_ : Nat) : Int)].toArray 3 (0, 0)), blk bw (.cells [(.func (.func 45) #[] [Value.pointer (some ⟨bn, 0, none⟩), Value.pointer (some ⟨bg, 0, none⟩), Value.pointer (some ⟨bl, 0, none⟩), Value.pointer (some ⟨bw, 0, none⟩)].toArray)].toArray 110 (0, 0))] Tryd.results45 ⟨⟨_, _, _, _, rfl, InB.mem, .inl ⟨⟨_, Tryd.underlying42⟩, sz42, rfl⟩⟩, trivial⟩ ?_ (fun _ hw => hw.sub)
   rw [hsw]
   exact ⟨rfl, rfl⟩
  ·skip
   try simp only [jbAll] at h21
   rw [if_neg (by omega)] at hsw
   refine St.seq (St.rg ?_)
   refine St.ev _ (Ev.fldb0 (.mk rfl) fo35_0) rfl ?_
   refine St.ev _ (Ev.ldb (.mk rfl) Tryd.underlying3 trivial (by rfl)) rfl ?_
   refine St.ev _ (Ev.lss (.mk rfl) (.mk rfl)) rfl ?_
   refine St.mv ?_
   refine St.gf _ rfl rfl (fun hg => Ev.fldb0 (.mk rfl) fo35_0) rfl ?_
   refine St.gf _ rfl rfl (fun hg => Ev.ldb (Opd.gv rfl hg) Tryd.underlying3 trivial (by rfl)) rfl ?_
   refine St.gf _ rfl rfl (fun hg => Ev.fldb0 (.mk rfl) fo32_1) rfl ?_
   refine St.gf _ rfl rfl (fun hg => Ev.ldb (Opd.gv rfl hg) Tryd.underlying26 trivial (by rfl)) rfl ?_
   refine St.gf _ rfl rfl (fun hg => Ev.lensl (Opd.gv rfl hg) Tryd.underlying26) rfl ?_
   refine St.gf _ rfl rfl (fun hg => Ev.geq (Opd.gv rfl hg) (Opd.gv rfl hg)) rfl ?_
   refine St.ev _ (Ev.or (.mk rfl) (fun hp => Opd.gv rfl hp)) rfl ?_
   refine St.mv ?_
   refine St.gf _ rfl rfl (fun hg => Ev.fldb0 (.mk rfl) fo35_0) rfl ?_
   refine St.gf _ rfl rfl (fun hg => Ev.ldb (Opd.gv rfl hg) Tryd.underlying3 trivial (by rfl)) rfl ?_
   refine St.gf _ rfl rfl (fun hg => Ev.eql (Opd.gv rfl hg) (.mk rfl)) rfl ?_
   refine St.gf _ rfl rfl (fun hg => Ev.move (Opd.gv rfl hg)) rfl ?_
   refine St.gct _ rfl rfl (fun hg => Ev.fldb0 (.mk rfl) fo35_1) rfl ?_
   refine St.gct _ rfl rfl (fun hg => Ev.ldb (Opd.gv rfl hg) Tryd.underlying3 trivial (by rfl)) rfl ?_
   refine St.gct _ rfl rfl (fun hg => Ev.lss (Opd.gv rfl hg) (.mk rfl)) rfl ?_
   refine St.gct _ rfl rfl (fun hg => Ev.move (Opd.gv rfl hg)) rfl ?_
   refine St.gcf _ rfl rfl (fun hg => Ev.fldb0 (.mk rfl) fo35_1) rfl ?_
   refine St.gcf _ rfl rfl (fun hg => Ev.ldb (Opd.gv rfl hg) Tryd.underlying3 trivial (by rfl)) rfl ?_
   refine St.gcf _ rfl rfl (fun hg => Ev.fldb0 (.mk rfl) fo32_2) rfl ?_
   refine St.gcf _ rfl rfl (fun hg => Ev.ldb (Opd.gv rfl hg) Tryd.underlying27 trivial (by rfl)) rfl ?_
   refine St.gcf _ rfl rfl (fun hg => Ev.lensl (Opd.gv rfl hg) Tryd.underlying27) rfl ?_
   refine St.gcf _ rfl rfl (fun hg => Ev.geq (Opd.gv rfl hg) (Opd.gv rfl hg)) rfl ?_
   refine St.gct _ rfl rfl (fun hg => Ev.or (Opd.gv rfl hg) (fun hp => Opd.gv rfl (and_i hg hp))) rfl ?_
   refine St.gf _ rfl rfl (fun hg => Ev.and (Opd.gv rfl hg) (fun hp => Opd.gv rfl (and_i hg hp))) rfl ?_
   refine St.ev _ (Ev.or (.mk rfl) (fun hp => Opd.gv rfl hp)) rfl ?_
   refine St.asg ?_
   refine St.nil (St.then_normal ?_)
   refine St.cond _ rfl (fun h30 => ?_) (fun h30 => ?_)
   ·skip
    try simp only [jbAll] at h30
    rw [if_pos (by omega)] at hsw
    refine St.seq (St.rg ?_)
    refine St.mv ?_
    refine St.ev _ (Ev.call (deriveFault_spec 3 sn) cb46 (.cons (.mk rfl) (.cons (.mk rfl) .nil))) rfl ?_
    refine St.storeA (Opd.mk rfl) (Opd.mk rfl) sz42 (by first | simp only [List.length_cons, List.length_nil] | rfl) rfl ?_
    refine St.nil (St.then_normal (St.rett (St.in_ret (St.then_ret ?_))))
    refine St.rets [_] [blk bn (.cells [iv ((sn + 1 : Nat) : Int)].toArray 3 (0, 0)), blk bg (.cells [g.tv.1, g.fv.1, g.rv.1, g.xv.1, g.start.nv.1].toArray 32 (0, 0)), blk bl (.cells [iv ((sl_ : Nat) : Int)].toArray 3 (0, 0)), blk bw (.cells [(.func (.func 45) #[] [Value.pointer (some ⟨bn, 0, none⟩), Value.pointer (some ⟨bg, 0, none⟩), Value.pointer (some ⟨bl, 0, none⟩), Value.pointer (some ⟨bw, 0, none⟩)].toArray)].toArray 110 (0, 0))] Tryd.results45 ⟨⟨_, _, _, _, rfl, InB.mem, .inl ⟨⟨_, Tryd.underlying42⟩, sz42, rfl⟩⟩, trivial⟩ ?_ (fun _ hw => hw.sub)
    rw [hsw]
    exact ⟨rfl, rfl⟩
   ·skip
    try simp only [jbAll] at h30
    rw [if_neg (by omega)] at hsw
    refine St.seq (St.rg ?_)
    refine St.ev _ (Ev.fldb0 (.mk rfl) fo35_0) rfl ?_
    refine St.ev _ (Ev.ldb (.mk rfl) Tryd.underlying3 trivial (by rfl)) rfl ?_
    refine St.ev _ (Ev.geq (.mk rfl) (.mk rfl)) rfl ?_
    refine St.mv ?_
    refine St.gt _ rfl rfl (fun hg => Ev.fldb0 (.mk rfl) fo35_1) rfl ?_
    refine St.gt _ rfl rfl (fun hg => Ev.ldb (Opd.gv rfl hg) Tryd.underlying3 trivial (by rfl)) rfl ?_
    refine St.gt _ rfl rfl (fun hg => Ev.neq (Opd.gv rfl hg) (.mk rfl)) rfl ?_
    refine St.ev _ (Ev.and (.mk rfl) (fun hp => Opd.gv rfl hp)) rfl ?_
    refine St.asg ?_
    refine St.nil (St.then_normal ?_)
    refine St.cond _ rfl (fun h62 => ?_) (fun h62 => ?_)
    ·skip
     try simp only [jbAll] at h62
     rw [if_pos (by omega)] at hsw
     refine St.seq (St.rg ?_)
     refine St.mv ?_
     refine St.ev _ (Ev.call (deriveFault_spec 5 sn) cb46 (.cons (.mk rfl) (.cons (.mk rfl) .nil))) rfl ?_
     refine St.storeA (Opd.mk rfl) (Opd.mk rfl) sz42 (by first | simp only [List.length_cons, List.length_nil] | rfl) rfl ?_
     refine St.nil (St.then_normal (St.rett (St.in_ret (St.then_ret ?_))))
     refine St.rets [_] [blk bn (.cells [iv ((sn + 1 : Nat) : Int)].toArray 3 (0, 0)), blk bg (.cells [g.tv.1, g.fv.1, g.rv.1, g.xv.1, g.start.nv.1].toArray 32 (0, 0)), blk bl (.cells [iv ((sl_ : Nat) : Int)].toArray 3 (0, 0)), blk bw (.cells [(.func (.func 45) #[] [Value.pointer (some ⟨bn, 0, none⟩), Value.pointer (some ⟨bg, 0, none⟩), Value.pointer (some ⟨bl, 0, none⟩), Value.pointer (some ⟨bw, 0, none⟩)].toArray)].toArray 110 (0, 0))] Tryd.results45 ⟨⟨_, _, _, _, rfl, InB.mem, .inl ⟨⟨_, Tryd.underlying42⟩, sz42, rfl⟩⟩, trivial⟩ ?_ (fun _ hw => hw.sub)
     rw [hsw]
     exact ⟨rfl, rfl⟩
    ·skip
     try simp only [jbAll] at h62
     rw [if_neg (by omega)] at hsw
     refine St.seq (St.rg ?_)
     refine St.ev _ (Ev.fldb0 (.mk rfl) fo35_0) rfl ?_
     refine St.ev _ (Ev.ldb (.mk rfl) Tryd.underlying3 trivial (by rfl)) rfl ?_
     refine St.ev _ (Ev.geq (.mk rfl) (.mk rfl)) rfl ?_
     refine St.asg ?_
     refine St.nil (St.then_normal ?_)
     refine St.cond _ rfl (fun h73 => ?_) (fun h73 => ?_)
     ·skip
      try simp only [jbAll] at h73
      obtain ⟨ru, hru⟩ := some_of_lt (show x.rule.toNat < g.rules.length by omega)
      have hkk : kn = ru.kids := by rw [← hkn, if_pos (by omega), List.getD_eq_getElem?_getD, List.getElem?_map, hru]; rfl
      have hll : lv = sl_ := by rw [← hlv, if_pos (by omega)]
      refine St.rg ?_
      refine St.ev _ (Ev.fldb0 (.mk rfl) fo32_1) rfl ?_
      refine St.ev _ (Ev.ldb (.mk rfl) Tryd.underlying26 trivial (by rfl)) rfl ?_
      refine St.ev _ (Ev.fldb0 (.mk rfl) fo35_0) rfl ?_
      refine St.ev _ (Ev.ldb (.mk rfl) Tryd.underlying3 trivial (by rfl)) rfl ?_
      refine St.ev _ (Ev.idxaddr (k := x.rule.toNat) (.mk rfl) (.mk rfl) Tryd.underlying26 sz91 (by omega) (by omega)) rfl ?_
      refine St.ev _ (Ev.fldel (.mk rfl) (by omega) fo91_2) rfl ?_
      refine St.ev _ (Ev.ld1 (.mk rfl) hru Tryd.underlying3 trivial rfl) rfl ?_
      refine St.slot 83 (iv kn) rfl (congrArg iv hkk.symm) ?_
      refine St.blkEq bl (L' := [iv ((lv : Nat) : Int)]) (by rw [hll]) ?_
      refine St.asg ?_
      refine St.nil (St.in_normal (St.then_normal ?_))
      refine St.met () ⟨hsw, by omega, by omega⟩ (by repeat (first | exact Sub.nil | refine Sub.cons (by first | rfl | exact congrArg (fun z => some (iv z)) (by first | omega | (dsimp only; omega)) | exact congrArg (fun z => some (Value.bool z)) (by first | assumption | exact Eq.symm (by assumption))) ?_)) (fun _ hw => hw.sub)
     ·skip
      try simp only [jbAll] at h73
      have hkk : kn = 0 := by rw [← hkn, if_neg (by omega)]
      have hll : lv = sl_ + 1 := by rw [← hlv, if_neg (by omega)]
      refine St.slot 12 (iv kn) rfl (congrArg iv hkk.symm) ?_
      refine St.rg ?_
      refine St.ev _ (Ev.ldb (.mk rfl) Tryd.underlying3 trivial (by rfl)) rfl ?_
      refine St.ev _ (Ev.add (.mk rfl) (.mk rfl) (by omega)) rfl ?_
      refine St.store1 (.mk rfl) (.mk rfl) sz3 rfl (by rfl) ?_
      refine St.blkEq bl (L' := [iv ((lv : Nat) : Int)]) (by rw [hll]; rfl) ?_
      refine St.nil (St.in_normal (St.then_normal ?_))
      refine St.met () ⟨hsw, by omega, by omega⟩ (by repeat (first | exact Sub.nil | refine Sub.cons (by first | rfl | exact congrArg (fun z => some (iv z)) (by first | omega | (dsimp only; omega)) | exact congrArg (fun z => some (Value.bool z)) (by first | assumption | exact Eq.symm (by assumption))) ?_)) (fun _ hw => hw.sub)
 ·skip
  rintro _ ⟨hsw, hsn1, hd48⟩
  refine St.seq (St.seq (St.rg ?_))
  refine St.ev _ (Ev.fldb0 (.mk rfl) fo35_2) rfl ?_
  refine St.ev _ (Ev.ldb (.mk rfl) Tryd.underlying33 trivial (by rfl)) rfl ?_
  refine St.ev _ (Ev.lensl (.mk rfl) Tryd.underlying33) rfl ?_
  refine St.mv ?_
  refine St.ev _ (Ev.neq (.mk rfl) (.mk rfl)) rfl ?_
  refine St.nil (St.then_normal ?_)
  refine St.cond _ rfl (fun h88 => ?_) (fun h88 => ?_)
  ·skip
   try simp only [jbAll] at h88
   rw [if_pos (by omega)] at hsw
   refine St.seq (St.rg ?_)
   refine St.mv ?_
   refine St.ev _ (Ev.call (deriveFault_spec 9 sn) cb46 (.cons (.mk rfl) (.cons (.mk rfl) .nil))) rfl ?_
   refine St.storeA (Opd.mk rfl) (Opd.mk rfl) sz42 (by first | simp only [List.length_cons, List.length_nil] | rfl) rfl ?_
   refine St.nil (St.then_normal (St.rett (St.then_ret ?_)))
   refine St.rets [_] [blk bn (.cells [iv ((sn + 1 : Nat) : Int)].toArray 3 (0, 0)), blk bg (.cells [g.tv.1, g.fv.1, g.rv.1, g.xv.1, g.start.nv.1].toArray 32 (0, 0)), blk bl (.cells [iv ((lv : Nat) : Int)].toArray 3 (0, 0)), blk bw (.cells [(.func (.func 45) #[] [Value.pointer (some ⟨bn, 0, none⟩), Value.pointer (some ⟨bg, 0, none⟩), Value.pointer (some ⟨bl, 0, none⟩), Value.pointer (some ⟨bw, 0, none⟩)].toArray)].toArray 110 (0, 0))] Tryd.results45 ⟨⟨_, _, _, _, rfl, InB.mem, .inl ⟨⟨_, Tryd.underlying42⟩, sz42, rfl⟩⟩, trivial⟩ ?_ (fun _ hw => hw.sub)
   rw [hsw]
   exact ⟨rfl, rfl⟩
  ·skip
   try simp only [jbAll] at h88
   rw [if_neg (by omega)] at hsw
   refine St.skip (St.then_normal ?_)
   refine St.join (ι := Unit) (fun u T => (2, iv (c2 : Nat)) :: T) (fun u => [blk b7 (.cells (treeC x).toArray 35 (0, 0)), blk b10 (.cells [iv 0, iv 0].toArray 42 (0, 0)), blk bn (.cells [iv ((sn + 1 : Nat) : Int)].toArray 3 (0, 0)), blk bg (.cells [g.tv.1, g.fv.1, g.rv.1, g.xv.1, g.start.nv.1].toArray 32 (0, 0)), blk bl (.cells [iv ((lv : Nat) : Int)].toArray 3 (0, 0)), blk bw (.cells [(.func (.func 45) #[] [Value.pointer (some ⟨bn, 0, none⟩), Value.pointer (some ⟨bg, 0, none⟩), Value.pointer (some ⟨bl, 0, none⟩), Value.pointer (some ⟨bw, 0, none⟩)].toArray)].toArray 110 (0, 0)), dat (sl treeR x.kv.1 x.kids), dat (dall treeD x.kids), dat (sl ruleR g.rv.1 g.rules), dat (sl lexR g.xv.1 g.lexes)]) (fun u => True) (Keep.cons 1 rfl (Keep.cons 6 rfl (Keep.cons 7 rfl (Keep.cons 10 rfl (Keep.cons 11 rfl Keep.nil))))) ?_ ?_
   ·skip
    refine St.seq (St.rg ?_)
    refine St.mv ?_
    refine St.ev _ (Ev.add (.mk rfl) (.mk rfl) (by omega)) rfl ?_
    refine St.asg ?_
    refine St.nil (St.then_normal (St.seq (St.rg ?_)))
    refine St.mv ?_
    refine St.ev _ (Ev.neq (.mk rfl) (.mk rfl)) rfl ?_
    refine St.nil (St.then_normal ?_)
    refine St.cond _ rfl (fun h94 => ?_) (fun h94 => ?_)
    ·skip
     try simp only [jbAll] at h94
     have hcc : c2 = 0 := by rw [← hc2, if_neg (by omega)]
     refine St.rg ?_
     refine St.asg ?_
     refine St.nil (St.then_normal ?_)
     refine St.met () trivial (by repeat (first | exact Sub.nil | refine Sub.cons (by first | rfl | exact congrArg (fun z => some (iv z)) (by first | omega | (dsimp only; omega)) | exact congrArg (fun z => some (Value.bool z)) (by first | assumption | exact Eq.symm (by assumption))) ?_)) (fun _ hw => hw.sub)
    ·skip
     try simp only [jbAll] at h94
     have hcc : c2 = ch + 1 := by rw [← hc2, if_pos (by omega)]
     refine St.skip (St.then_normal ?_)
     refine St.met () trivial (by repeat (first | exact Sub.nil | refine Sub.cons (by first | rfl | exact congrArg (fun z => some (iv z)) (by first | omega | (dsimp only; omega)) | exact congrArg (fun z => some (Value.bool z)) (by first | assumption | exact Eq.symm (by assumption))) ?_)) (fun _ hw => hw.sub)
   ·skip
    intro _ _
    refine St.seq (St.seq (St.rg ?_))
    refine St.mv ?_
    refine St.ev _ (Ev.gtr (.mk rfl) (.mk rfl)) rfl ?_
    refine St.nil (St.then_normal ?_)
    refine St.cond _ rfl (fun h96 => ?_) (fun h96 => ?_)
    ·skip
     try simp only [jbAll] at h96
     rw [if_pos (by omega)] at hsw
     refine St.seq (St.rg ?_)
     refine St.mv ?_
     refine St.ev _ (Ev.call (deriveFault_spec 14 sn) cb46 (.cons (.mk rfl) (.cons (.mk rfl) .nil))) rfl ?_
     refine St.storeA (Opd.mk rfl) (Opd.mk rfl) sz42 (by first | simp only [List.length_cons, List.length_nil] | rfl) rfl ?_
     refine St.nil (St.then_normal (St.rett (St.then_ret ?_)))
     refine St.rets [_] [blk bn (.cells [iv ((sn + 1 : Nat) : Int)].toArray 3 (0, 0)), blk bg (.cells [g.tv.1, g.fv.1, g.rv.1, g.xv.1, g.start.nv.1].toArray 32 (0, 0)), blk bl (.cells [iv ((lv : Nat) : Int)].toArray 3 (0, 0)), blk bw (.cells [(.func (.func 45) #[] [Value.pointer (some ⟨bn, 0, none⟩), Value.pointer (some ⟨bg, 0, none⟩), Value.pointer (some ⟨bl, 0, none⟩), Value.pointer (some ⟨bw, 0, none⟩)].toArray)].toArray 110 (0, 0))] Tryd.results45 ⟨⟨_, _, _, _, rfl, InB.mem, .inl ⟨⟨_, Tryd.underlying42⟩, sz42, rfl⟩⟩, trivial⟩ ?_ (fun _ hw => hw.sub)
     rw [hsw]
     exact ⟨rfl, rfl⟩
    ·skip
     try simp only [jbAll] at h96
     rw [if_neg (by omega)] at hsw
     refine St.skip (St.then_normal (St.seq (St.seq (St.rg ?_))))
     refine St.ev _ (Ev.fldb0 (.mk rfl) fo35_2) rfl ?_
     refine St.ev _ (Ev.ldb (.mk rfl) Tryd.underlying33 trivial (by rfl)) rfl ?_
     refine St.ev _ (Ev.lensl (.mk rfl) Tryd.underlying33) rfl ?_
     refine St.mv ?_
     refine St.nil (St.then_normal (St.block ?_))
     refine St.loopH2 (ι := Nat) (κ := TrS) (fun k z T => (102, iv k) :: T) (fun k z => [blk b10 (.cells [iv 0, iv 0].toArray 42 (0, 0)), blk bn (.cells [iv ((z.nodes : Nat) : Int)].toArray 3 (0, 0)), blk bg (.cells [g.tv.1, g.fv.1, g.rv.1, g.xv.1, g.start.nv.1].toArray 32 (0, 0)), blk bl (.cells [iv ((z.leaves : Nat) : Int)].toArray 3 (0, 0)), blk bw (.cells [(.func (.func 45) #[] [Value.pointer (some ⟨bn, 0, none⟩), Value.pointer (some ⟨bg, 0, none⟩), Value.pointer (some ⟨bl, 0, none⟩), Value.pointer (some ⟨bw, 0, none⟩)].toArray)].toArray 110 (0, 0)), dat (sl treeR x.kv.1 x.kids), dat (dall treeD x.kids), dat (sl ruleR g.rv.1 g.rules), dat (sl lexR g.xv.1 g.lexes)]) (fun k z => k ≤ x.kids.length ∧ trW (g.rules.map RuleD.kids) g.lexes.length (treeE x) d ch ⟨sn, sl_⟩ = trWL (g.rules.map RuleD.kids) g.lexes.length ((x.kids.map treeE).drop k) (d + 1) c2 z ∧ z.nodes ≤ 200 ∧ z.leaves ≤ z.nodes) (fun k z => x.kids.length - k) 0 ⟨sn + 1, lv⟩ (Keep.cons 1 rfl (Keep.cons 2 rfl (Keep.cons 6 rfl (Keep.cons 10 rfl (Keep.cons 100 rfl (Keep.cons 101 rfl Keep.nil)))))) ⟨Nat.zero_le _, hsw, by dsimp only; omega, by dsimp only; rw [← hlv]; split <;> omega⟩ (by repeat (first | exact Sub.nil | refine Sub.cons (by first | rfl | exact congrArg (fun z => some (iv z)) (by first | omega | (dsimp only; omega)) | exact congrArg (fun z => some (Value.bool z)) (by first | assumption | exact Eq.symm (by assumption))) ?_)) (fun _ hw => hw.sub) ?_
     rintro k ⟨zn, zl⟩ ⟨hk, hsk, hzn, hzl⟩
     dsimp only at hzn hzl ⊢
     refine St.seq (St.rg ?_)
     refine St.ev _ (Ev.lss (.mk rfl) (.mk rfl)) rfl ?_
     refine St.nil (St.then_normal (St.seq ?_))
     refine St.cond _ rfl (fun h103 => ?_) (fun h103 => ?_)
     ·skip
      try simp only [jbAll] at h103
      obtain ⟨y, hy⟩ := some_of_lt (show k < x.kids.length by omega)
      have hym := List.mem_of_getElem? hy
      refine St.dallAt treeD x.kids (x := y) hym ?_
      have hdr := trWL_drop (rk := (g.rules.map RuleD.kids)) (nl := g.lexes.length) hy (d + 1) c2 ⟨zn, zl⟩
      refine St.skip (St.then_normal (St.seq (St.block (St.seq (St.rg ?_)))))
      refine St.ev _ (Ev.idxaddr (k := k) (.mk rfl) (.mk rfl) Tryd.underlying33 sz35 (by omega) (by omega)) rfl ?_
      refine St.ev _ (Ev.ldA (.mk rfl) hy Tryd.underlying35 trivial sz35 Cel.eq) rfl ?_
      refine St.alloc zc35 rfl (fun b14 => ?_)
      refine St.storeA (Opd.mk rfl) (Opd.mk rfl) sz35 (by first | simp only [List.length_cons, List.length_nil] | rfl) (by simp only [List.all_cons, List.all_nil, Bool.and_true, Bool.and_eq_true]; exact ⟨rfl, rfl, y.kv.2⟩) ?_
      refine St.nil (St.then_normal (St.seq ?_))
      refine St.mkD (sl ruleR g.rv.1 g.rules) [sl ruleR g.rv.1 g.rules] (fun ρ h => h _ (List.mem_cons_self ..)) ?_
      refine St.mkD (sl lexR g.xv.1 g.lexes) [sl lexR g.xv.1 g.lexes] (fun ρ h => h _ (List.mem_cons_self ..)) ?_
      refine St.rg ?_
      refine St.ev _ (Ev.ldb (.mk rfl) Tryd.underlying110 trivial (by rfl)) rfl ?_
      refine St.ev _ (Ev.ldbA (.mk rfl) Tryd.underlying35 trivial (by exact sz35)) rfl ?_
      refine St.mv ?_
      refine St.ev _ (Ev.add (.mk rfl) (.mk rfl) (by omega)) rfl ?_
      refine St.slot 109 (iv ((d + 1 : Nat) : Int)) rfl rfl ?_
      refine St.mv ?_
      refine St.callc (ih y hym (d + 1) c2 ⟨zn, zl⟩ (hxw y hym) (by omega) (by omega) hzn hzl) cb45 (.mk rfl) (.cons (.mk rfl) (.cons (.mk rfl) (.cons (.mk rfl) .nil))) rfl ?_
      rintro v111 _ ⟨rfl, rfl⟩
      refine St.app4 ?_
      refine St.alloc zc42 rfl (fun b15 => ?_)
      refine St.storeA (Opd.mk rfl) (Opd.mk rfl) sz42 (by first | simp only [List.length_cons, List.length_nil] | rfl) rfl ?_
      refine St.nil (St.then_normal (St.seq (St.rg ?_)))
      refine St.ev _ (Ev.fldb0 (.mk rfl) fo42_0) rfl ?_
      refine St.ev _ (Ev.ldb (.mk rfl) Tryd.underlying3 trivial (by rfl)) rfl ?_
      refine St.ev _ (Ev.neq (.mk rfl) (.mk rfl)) rfl ?_
      refine St.nil (St.then_normal ?_)
      refine St.cond _ rfl (fun h114 => ?_) (fun h114 => ?_)
      ·skip
       skip
       rw [if_pos (show (trW (g.rules.map RuleD.kids) g.lexes.length (treeE y) (d + 1) c2 ⟨zn, zl⟩).2.1 ≠ 0 by simpa using h114)] at hdr
       rw [hdr] at hsk
       refine St.seq (St.rg ?_)
       refine St.ev _ (Ev.ldbA (.mk rfl) Tryd.underlying42 trivial (by exact sz42)) rfl ?_
       refine St.storeA (Opd.mk rfl) (Opd.mk rfl) sz42 (by first | simp only [List.length_cons, List.length_nil] | rfl) rfl ?_
       refine St.nil (St.then_normal (St.rett (St.in_ret (St.then_ret (St.then_ret (St.in_ret (St.then_ret ?_)))))))
       refine St.rets [_] [blk bn (.cells [iv (((trW (g.rules.map RuleD.kids) g.lexes.length (treeE y) (d + 1) c2 ⟨zn, zl⟩).1.nodes : Nat) : Int)].toArray 3 (0, 0)), blk bg (.cells [g.tv.1, g.fv.1, g.rv.1, g.xv.1, g.start.nv.1].toArray 32 (0, 0)), blk bl (.cells [iv (((trW (g.rules.map RuleD.kids) g.lexes.length (treeE y) (d + 1) c2 ⟨zn, zl⟩).1.leaves : Nat) : Int)].toArray 3 (0, 0)), blk bw (.cells [(.func (.func 45) #[] [Value.pointer (some ⟨bn, 0, none⟩), Value.pointer (some ⟨bg, 0, none⟩), Value.pointer (some ⟨bl, 0, none⟩), Value.pointer (some ⟨bw, 0, none⟩)].toArray)].toArray 110 (0, 0))] Tryd.results45 ⟨⟨_, _, _, _, rfl, InB.mem, .inl ⟨⟨_, Tryd.underlying42⟩, sz42, rfl⟩⟩, trivial⟩ ?_ (fun _ hw => hw.sub)
       rw [hsk]; exact ⟨rfl, rfl⟩
      ·skip
       skip
       have hz0 : ¬ (trW (g.rules.map RuleD.kids) g.lexes.length (treeE y) (d + 1) c2 ⟨zn, zl⟩).2.1 ≠ 0 := by simpa using h114
       rw [if_neg hz0] at hdr
       have hsz := trW_sz (treeE y) (d + 1) c2 ⟨zn, zl⟩ (Decidable.not_not.1 hz0) hzl
       refine St.skip (St.in_normal (St.then_normal (St.rg ?_)))
       refine St.ev _ (Ev.add (.mk rfl) (.mk rfl) (by omega)) rfl ?_
       refine St.mv ?_
       refine St.nil (St.then_normal ?_)
       refine St.againH2 (k + 1) (trW (g.rules.map RuleD.kids) g.lexes.length (treeE y) (d + 1) c2 ⟨zn, zl⟩).1 ⟨by omega, hsk.trans hdr, hsz.1, hsz.2⟩ (by first | omega | (dsimp only; omega)) (by repeat (first | exact Sub.nil | refine Sub.cons (by first | rfl | exact congrArg (fun z => some (iv z)) (by first | omega | (dsimp only; omega)) | exact congrArg (fun z => some (Value.bool z)) (by first | assumption | exact Eq.symm (by assumption))) ?_)) (fun _ hw => hw.sub)
     ·skip
      try simp only [jbAll] at h103
      rw [trWL_end (by omega)] at hsk
      refine St.exit (St.then_exit (St.then_exit (St.in_hit (St.then_normal (St.seq (St.rg ?_))))))
      refine St.ev _ (Ev.build (ps := []) (Opds.nil) (fun w => bld42_  w)) rfl ?_
      refine St.storeA (Opd.mk rfl) (Opd.mk rfl) sz42 (by first | simp only [List.length_cons, List.length_nil] | rfl) rfl ?_
      refine St.nil (St.then_normal (St.rett ?_))
      refine St.rets [_] [blk bn (.cells [iv ((zn : Nat) : Int)].toArray 3 (0, 0)), blk bg (.cells [g.tv.1, g.fv.1, g.rv.1, g.xv.1, g.start.nv.1].toArray 32 (0, 0)), blk bl (.cells [iv ((zl : Nat) : Int)].toArray 3 (0, 0)), blk bw (.cells [(.func (.func 45) #[] [Value.pointer (some ⟨bn, 0, none⟩), Value.pointer (some ⟨bg, 0, none⟩), Value.pointer (some ⟨bl, 0, none⟩), Value.pointer (some ⟨bw, 0, none⟩)].toArray)].toArray 110 (0, 0))] Tryd.results45 ⟨⟨_, _, _, _, rfl, InB.mem, .inl ⟨⟨_, Tryd.underlying42⟩, sz42, rfl⟩⟩, trivial⟩ ?_ (fun _ hw => hw.sub)
      rw [hsk]; exact ⟨rfl, rfl⟩
set_option maxHeartbeats 2000000 in
theorem Fits_spec (g : GrmD) (t : TreeD) (hw : treeR.wf t) : FnV Tryd.prog 16 #[grmV g, treeV t] [grmD g, treeD t] (fv (treeF (gmE g) (treeE t))) := by
 unfold FnV
 refine FnH.body (args := [grmV g, treeV t]) 21 Tryd.func16 rfl Tryd.ntmps16 rfl (fun c => ?_)
 refine St.cast (H' := [dat (grmD g), dat (treeD t)]) rfl ?_
 refine St.seq ?_
 refine St.openD (grmD g) (fun _ : Unit => grmL g) (fun ρ h => ⟨(), h⟩) fun _ => ?_
 refine St.cast (H' := [dat (sl tyR g.tv.1 g.types), dat (dall tyD g.types), dat (sl featR g.fv.1 g.feats), dat (sl ruleR g.rv.1 g.rules), dat (dall ruleD g.rules), dat (sl lexR g.xv.1 g.lexes), dat (dall lexD g.lexes), dat (graphD g.start), dat (grmD g), dat (treeD t)]) rfl ?_
 have hsw := treeF_E g t
 refine St.rg ?_
 refine St.boxA (.mk rfl) rfl (fun b2 => ?_)
 refine St.boxA (.mk rfl) rfl (fun b3 => ?_)
 refine St.alloc zc42 rfl (fun b4 => ?_)
 refine St.nil (St.then_normal (St.seq (St.rg ?_)))
 refine St.alloc zc3 rfl (fun b5 => ?_)
 refine St.alloc zc3 rfl (fun b6 => ?_)
 refine St.store1 (.mk rfl) (.mk rfl) sz3 rfl (by rfl) ?_
 refine St.blkEq b5 (L' := [iv ((0 : Nat) : Int)]) rfl ?_
 refine St.store1 (.mk rfl) (.mk rfl) sz3 rfl (by rfl) ?_
 refine St.blkEq b6 (L' := [iv ((0 : Nat) : Int)]) rfl ?_
 refine St.nil (St.then_normal (St.seq (St.rg ?_)))
 refine St.alloc zc110 rfl (fun b7 => ?_)
 refine St.nil (St.then_normal (St.seq (St.rg ?_)))
 refine St.ev _ (Ev.func (.cons (.mk rfl) (.cons (.mk rfl) (.cons (.mk rfl) (.cons (.mk rfl) .nil))))) rfl ?_
 refine St.store1 (.mk rfl) (.mk rfl) sz110 rfl (by rfl) ?_
 refine St.nil (St.then_normal (St.seq (St.seq ?_)))
 refine St.mkD (sl ruleR g.rv.1 g.rules) [sl ruleR g.rv.1 g.rules] (fun ρ h => h _ (List.mem_cons_self ..)) ?_
 refine St.mkD (sl lexR g.xv.1 g.lexes) [sl lexR g.xv.1 g.lexes] (fun ρ h => h _ (List.mem_cons_self ..)) ?_
 refine St.mkD (treeD t) [treeD t] (fun ρ h => h _ (List.mem_cons_self ..)) ?_
 refine St.rg ?_
 refine St.ev _ (Ev.ldb (.mk rfl) Tryd.underlying110 trivial (by rfl)) rfl ?_
 refine St.ev _ (Ev.ldbA (.mk rfl) Tryd.underlying35 trivial (by exact sz35)) rfl ?_
 refine St.callc (treeWalk_spec b5 b2 b6 b7 g t 1 0 ⟨0, 0⟩ hw (by omega) (by omega) (by simp) (by simp)) cb45 (.mk rfl) (.cons (.mk rfl) (.cons (.mk rfl) (.cons (.mk rfl) .nil))) rfl ?_
 rintro v12 _ ⟨rfl, rfl⟩
 refine St.app4 ?_
 refine St.alloc zc42 rfl (fun b8 => ?_)
 refine St.storeA (Opd.mk rfl) (Opd.mk rfl) sz42 (by first | simp only [List.length_cons, List.length_nil] | rfl) rfl ?_
 refine St.nil (St.then_normal (St.seq (St.rg ?_)))
 refine St.ev _ (Ev.fldb0 (.mk rfl) fo42_0) rfl ?_
 refine St.ev _ (Ev.ldb (.mk rfl) Tryd.underlying3 trivial (by rfl)) rfl ?_
 refine St.ev _ (Ev.neq (.mk rfl) (.mk rfl)) rfl ?_
 refine St.nil (St.then_normal ?_)
 refine St.cond _ rfl (fun h15 => ?_) (fun h15 => ?_)
 ·skip
  skip
  rw [if_pos (show (trW (g.rules.map RuleD.kids) g.lexes.length (treeE t) 1 0 ⟨0, 0⟩).2.1 ≠ 0 by simpa using h15)] at hsw
  refine St.seq (St.rg ?_)
  refine St.ev _ (Ev.ldbA (.mk rfl) Tryd.underlying42 trivial (by exact sz42)) rfl ?_
  refine St.storeA (Opd.mk rfl) (Opd.mk rfl) sz42 (by first | simp only [List.length_cons, List.length_nil] | rfl) rfl ?_
  refine St.nil (St.then_normal (St.rett (St.then_ret ?_)))
  refine St.rets [_] [] Tryd.results16 ⟨⟨_, _, _, _, rfl, InB.mem, .inl ⟨⟨_, Tryd.underlying42⟩, sz42, rfl⟩⟩, trivial⟩ ?_ (fun _ hw => hw.sub)
  exact congrArg fv hsw.symm
 ·skip
  skip
  have hz0 : ¬ (trW (g.rules.map RuleD.kids) g.lexes.length (treeE t) 1 0 ⟨0, 0⟩).2.1 ≠ 0 := by simpa using h15
  rw [if_neg hz0] at hsw
  have hsz := trW_sz (treeE t) 1 0 ⟨0, 0⟩ (Decidable.not_not.1 hz0) (Nat.le_refl _)
  refine St.skip (St.then_normal (St.seq (St.seq (St.rg ?_))))
  refine St.ev _ (Ev.ldb (.mk rfl) Tryd.underlying3 trivial (by rfl)) rfl ?_
  refine St.ev _ (Ev.gtr (.mk rfl) (.mk rfl)) rfl ?_
  refine St.nil (St.then_normal ?_)
  refine St.cond _ rfl (fun h18 => ?_) (fun h18 => ?_)
  ·skip
   try simp only [jbAll] at h18
   rw [if_pos (by omega)] at hsw
   refine St.seq (St.rg ?_)
   refine St.ev _ (Ev.call (deriveFault_spec 2 (-2)) cb46 (.cons (.mk rfl) (.cons (.mk rfl) .nil))) rfl ?_
   refine St.storeA (Opd.mk rfl) (Opd.mk rfl) sz42 (by first | simp only [List.length_cons, List.length_nil] | rfl) rfl ?_
   refine St.nil (St.then_normal (St.rett (St.then_ret ?_)))
   refine St.rets [_] [] Tryd.results16 ⟨⟨_, _, _, _, rfl, InB.mem, .inl ⟨⟨_, Tryd.underlying42⟩, sz42, rfl⟩⟩, trivial⟩ ?_ (fun _ hw => hw.sub)
   exact congrArg fv hsw.symm
  ·skip
   try simp only [jbAll] at h18
   rw [if_neg (by omega)] at hsw
   refine St.skip (St.then_normal (St.seq (St.rg ?_)))
   refine St.ev _ (Ev.build (ps := []) (Opds.nil) (fun w => bld42_  w)) rfl ?_
   refine St.storeA (Opd.mk rfl) (Opd.mk rfl) sz42 (by first | simp only [List.length_cons, List.length_nil] | rfl) rfl ?_
   refine St.nil (St.then_normal (St.rett ?_))
   refine St.rets [_] [] Tryd.results16 ⟨⟨_, _, _, _, rfl, InB.mem, .inl ⟨⟨_, Tryd.underlying42⟩, sz42, rfl⟩⟩, trivial⟩ ?_ (fun _ hw => hw.sub)
   exact congrArg fv hsw.symm
end Go.Proofs.YtolmidffiegkaaaDoor

/-
  (YtolmidffiegkaaaDoorJ15c)
  Rows of numbers.
  Conditions: none; everything holds of any program.
-/
namespace Go.J
open Go
abbrev ints (l : List Nat) : List Int := l.map (fun i : Nat => (i : Int))
theorem rowI_set (l : List Int) (k : Nat) (x : Int) : (rows intR l).set (k * 1 + 0) (iv x) = rows intR (l.set k x) := by
 rw [Nat.mul_one, Nat.add_zero, rows_set1 (Rr := intR) rfl rfl]
theorem ints_length (l : List Nat) : (ints l).length = l.length := List.length_map _
end Go.J

/-
  (YtolmidffiegkaaaDoorJ16)
  The smaller of two numbers, by the language's own word.
  Conditions: none; everything holds of any program.
-/
namespace Go.J
open Go
section
variable {P : Program} {n : Nat} {F : Fr} {A : World → Prop} {x y : Operand} {ty : TypeId}
end
end Go.J

/-
  (YtolmidffiegkaaaDoorJ33)
  A field's place by the slice's shape; the greater of two numbers; append of a row of the call's own that stays.
  Conditions: none; everything holds of any program.
-/
namespace Go.J
open Go Go.Proofs Go.Proofs.YtolmidffiegkaaaDoor
section
variable {P : Program} {n : Nat} {F : Fr} {A : World → Prop} {c : Ctx} {H R : List Ent} {ty : TypeId} {x y : Operand} {v : Value} {Q : Exit → Act → World → Prop} {ops : Array Oper} {rest : List Oper} {d size : Nat}
 {pos : String} {after : Array Edge} {t e : TypeId} {m k : Nat} {cs : List Value}
theorem Ev.fldv {off o i b o' cap : Nat} {s : TypeId} (hv : v = .slice (some ⟨b, o', none⟩) m cap) (hx : Opd F x (eptr v size k off)) (ho : fieldOff P s i = some o) : Ev P n F A (.fieldAddr s x i) ty (eptr v size k (off + o)) := .of_run fun a w ha _ => by
 subst hv
 rw [eptr_slice] at hx
 simp [execOp, hx.eval ha, run_fieldAt ho, eptr_slice, Addr.add_lit, Nat.add_assoc]
theorem Ev.maxI {a b : Int} {ats : Array TypeId} (hx : Opd F x (iv a)) (hy : Opd F y (iv b)) :
  Ev P n F A (.call { callee := .builtin .max, args := #[x, y], argTypes := ats }) ty (iv (if b > a then b else a)) := .of_run fun a w ha _ => by
 simp [execOp, resolve, invoke, builtin, hx.eval ha, hy.eval ha, run_max_int2, iv]
theorem St.appendKeep {v2 : Value} {m2 : Nat} {news : List Value} {zv : Value} {by_ : Nat} [t1 : TakeR v H e size m cs R] [r2 : InR v2 R e size m2 news]
  (hx : Opd F x v) (hy : Opd F y v2) (ht : P.underlying t = some (.slice e)) (hs : (P.info? e).map (·.size) = some size) (hz : (P.info? e).bind (·.zero) = some zv) (hb : (P.info? e).map (·.bytes) = some by_)
  (hone : ∀ u ∈ news, u.oneCell' = true) (hlen : m + m2 ≤ 9223372036854775807) (hroom : (m + m2) * by_ ≤ 140737488355328) (hzs : zv.cells.size = size) (hpos : Nat.ble 1 size = true) (hne : 1 ≤ m2) (hd : Nat.ble (d + 1) n = true)
  (h : ∀ v', (v' = .slice none 0 0 ↔ v = .slice none 0 0 ∧ m2 = 0) → St n ((d, v') :: F) (Mm c (row v' e size (m + m2) (cs ++ news) :: R)) (wpList P ops Q rest)) :
  St n F (Mm c H) (wpList P ops Q ({ dst := some d, op := .call { callee := .builtin .append, args := #[x, y], argTypes := #[t, t] }, type := ty, pos := pos, after := after, guard := none } :: rest)) := by
 refine St.do_ (K := fun v' H' => (v' = .slice none 0 0 ↔ v = .slice none 0 0 ∧ m2 = 0) ∧ H' = row v' e size (m + m2) (cs ++ news) :: R) ?_ hd ?_
 ·intro a w ρ ha hm
  have hm2 := hm.perm t1.perm
  have hr := row_ok.1 (hm2.ents _ (List.mem_cons_self ..))
  have hr2 := hm2.drop.row r2
  obtain ⟨i, hi, hsz⟩ := Option.map_eq_some_iff.1 hs
  obtain ⟨q1, q2, q3⟩ := zeros_of hs hz hb hi
  rcases hr2.2 with ⟨_, rfl⟩ | ⟨g2, cap2, cur2, rfl, _, hg2, hc1, hc2, hcs2, htk2⟩
  ·omega
  ·obtain ⟨v', w', hrun, how, hgr, hnil, hob, hdr⟩ := run_append_at (P := P) (w := w) t ty e ht hi q2 q1 q3 hzs (Nat.le_of_ble_eq_true hpos) v m cs hr ⟨g2, 0, none⟩ m2 cap2 news hr2.1
    (fun j u hj => by
     rw [Addr.add_lit, Nat.zero_add, cell?_of_blk hg2]
     rw [← htk2, List.getElem?_take] at hj
     split at hj
     ·simpa using hj
     ·simp at hj) hone (by unfold maxLen; omega) hroom
   refine ⟨.value v', w', ρ, _, ?_, ⟨_, .inl rfl, hnil, rfl⟩, ?_⟩
   ·simp [execOp, resolve, invoke, builtin, hx.eval ha, hy.eval ha, hrun]
   ·refine hm2.alter hgr.os ⟨hgr.tape, hdr⟩ hgr.output hgr.size (fun j hj hne => ?_) (row_ok.2 how) (fun b' hb' => ?_)
    ·rw [row_key] at hne; exact hgr.block j hj (fun e => hne e.symm)
    ·rw [row_key] at hb' ⊢; exact hob b' hb'
 ·rintro _ _ ⟨h1, rfl⟩
  exact h _ h1
end
section
variable {n : Nat} {F : Fr} {c : Ctx} {R : List Ent} {T : Act → World → Prop}
theorem St.app8 {a b d e f g h i : Ent} (k : St n F (Mm c (a :: b :: d :: e :: f :: g :: h :: i :: R)) T) : St n F (Mm c ([a, b, d, e, f, g, h, i] ++ R)) T := k
end
theorem rowq_set {L : List Nq} {cs : List Value} {j : Nat} {u : Value} : (rows ndqR L ++ cs).set (L.length * 6 + j) u = rows ndqR L ++ cs.set j u := by
 have hl : (rows ndqR L).length = L.length * 6 := rows_length _ _
 rw [List.set_append, if_neg (by rw [hl]; omega), hl, Nat.add_sub_cancel_left]
theorem rowq_at {L K : List Nq} {x : Nq} : rows ndqR (L ++ x :: K) = rows ndqR L ++ (ndqR.cells x ++ rows ndqR K) := by
 simp [rows]
end Go.J

/-
  (YtolmidffiegkaaaDoorQ27)
  The walk of the nodes of a tree.
  Conditions: none beyond the sizes.
-/
set_option maxRecDepth 20000
set_option linter.unusedSimpArgs false
set_option linter.unusedVariables false
namespace Go.Proofs.YtolmidffiegkaaaDoor
open Go Go.J
theorem nzT_E (x : TreeD) : nzT (treeE x) = 1 + nzL (x.kids.map treeE) := by cases x; rw [treeE, treeEL_map, nzT]; rfl
theorem lvT_E (x : TreeD) : lvT (treeE x) = (if x.rule < 0 then 1 else 0) + lvL (x.kids.map treeE) := by cases x; rw [treeE, treeEL_map, lvT]; rfl
theorem ndT_E (G : Gm0) (x : TreeD) (k : Nat) (up : Int) (w : Nat) : ndT G (treeE x) k up w = ⟨k, decide (x.rule < 0), labT G x.rule x.lex, up, k + (1 + nzL (x.kids.map treeE)), w, w + ((if x.rule < 0 then 1 else 0) + lvL (x.kids.map treeE))⟩ :: ndL G (x.kids.map treeE) (k + 1) k (w + (if x.rule < 0 then 1 else 0)) := by
 cases x; rw [treeE, treeEL_map, ndT]; rfl
theorem goodL_mem {nr nl : Nat} : ∀ {l : List Tr0}, goodL nr nl l → ∀ t ∈ l, goodT nr nl t
 | [], _, t, h => by cases h
 | x :: l, h, t, ht => by
  rw [goodL] at h
  rcases List.mem_cons.1 ht with rfl | ht
  ·exact h.1
  ·exact goodL_mem h.2 t ht
theorem goodT_E {nr nl : Nat} (x : TreeD) (h : goodT nr nl (treeE x)) : (-1 ≤ x.rule ∧ x.rule < nr) ∧ (x.rule < 0 → x.kids = [] ∧ 0 ≤ x.lex ∧ x.lex < nl) ∧ ∀ y ∈ x.kids, goodT nr nl (treeE y) := by
 cases x with
 | mk r y v l =>
  rw [treeE, treeEL_map, goodT] at h
  refine ⟨h.1, fun hr => ?_, fun y hy => goodL_mem h.2.2.2 _ (List.mem_map_of_mem hy)⟩
  obtain ⟨h1, h2, h3⟩ := h.2.1 hr
  exact ⟨List.map_eq_nil_iff.1 h1, h2, h3⟩
theorem nzL_app : ∀ l m : List Tr0, nzL (l ++ m) = nzL l + nzL m
 | [], m => by rw [List.nil_append, nzL]; omega
 | x :: l, m => by rw [List.cons_append, nzL, nzL_app l, nzL]; omega
theorem lvL_app : ∀ l m : List Tr0, lvL (l ++ m) = lvL l + lvL m
 | [], m => by rw [List.nil_append, lvL]; omega
 | x :: l, m => by rw [List.cons_append, lvL, lvL_app l, lvL]; omega
theorem ndL_app (G : Gm0) : ∀ (l m : List Tr0) (k : Nat) (up : Int) (w : Nat), ndL G (l ++ m) k up w = ndL G l k up w ++ ndL G m (k + nzL l) up (w + lvL l)
 | [], m, k, up, w => by rw [List.nil_append, ndL, nzL, lvL]; rfl
 | x :: l, m, k, up, w => by rw [List.cons_append, ndL, ndL_app G l, ndL, nzL, lvL, List.append_assoc, Nat.add_assoc, Nat.add_assoc]
def kkF (G : Gm0) (l : List Tr0) (n w k : Nat) : List Nq := ndL G (l.take k) (n + 1) n w
theorem kkF_zero (G : Gm0) (l : List Tr0) (n w : Nat) : kkF G l n w 0 = [] := by unfold kkF; rw [List.take_zero, ndL]
theorem kkF_succ (G : Gm0) {l : List Tr0} {k : Nat} {t : Tr0} (h : l[k]? = some t) (n w : Nat) : kkF G l n w (k + 1) = kkF G l n w k ++ ndT G t (n + 1 + nzL (l.take k)) n (w + lvL (l.take k)) := by
 unfold kkF; rw [take_of_some h, ndL_app, ndL, ndL, List.append_nil]
theorem kkF_len (G : Gm0) (l : List Tr0) (n w k : Nat) : (kkF G l n w k).length = nzL (l.take k) := ndL_len ..
theorem kkF_all (G : Gm0) (l : List Tr0) (n w : Nat) {k : Nat} (h : l.length ≤ k) : kkF G l n w k = ndL G l (n + 1) n w := by unfold kkF; rw [List.take_of_length_le h]
theorem nzL_take {l : List Tr0} {k : Nat} {t : Tr0} (h : l[k]? = some t) : nzL (l.take k) + nzT t ≤ nzL l := by
 conv => rhs; rw [← List.take_append_drop k l]
 rw [drop_of_some h, nzL_app, nzL]; omega
theorem lvL_take {l : List Tr0} {k : Nat} {t : Tr0} (h : l[k]? = some t) : lvL (l.take (k + 1)) = lvL (l.take k) + lvT t ∧ lvL (l.take k) + lvT t ≤ lvL l := by
 refine ⟨by rw [take_of_some h, lvL_app, lvL, lvL]; omega, ?_⟩
 conv => rhs; rw [← List.take_append_drop k l]
 rw [drop_of_some h, lvL_app, lvL]; omega
set_option maxHeartbeats 4000000 in
theorem nodesWalk_spec (bl bw bg bk : Nat) (g : GrmD) : ∀ (x : TreeD) (up : Int) (L : List Nq) (w : Nat) (vl : Value), vl.oneCell' = true → treeR.wf x → goodT g.rules.length g.lexes.length (treeE x) → L.length + nzT (treeE x) ≤ 200 → w + lvT (treeE x) ≤ 200 → FnH Tryd.prog 47 ([treeV x, iv up] ++ [Value.pointer (some ⟨bl, 0, none⟩), Value.pointer (some ⟨bw, 0, none⟩), Value.pointer (some ⟨bg, 0, none⟩), Value.pointer (some ⟨bk, 0, none⟩)]).toArray [dat (treeD x), blk bl (.cells [vl].toArray 66 (0, 0)), row vl 71 6 (L).length (rows ndqR (L)), blk bw (.cells [iv ((w : Nat) : Int)].toArray 3 (0, 0)), blk bg (.cells [g.tv.1, g.fv.1, g.rv.1, g.xv.1, g.start.nv.1].toArray 32 (0, 0)), blk bk (.cells [(.func (.func 47) #[] [Value.pointer (some ⟨bl, 0, none⟩), Value.pointer (some ⟨bw, 0, none⟩), Value.pointer (some ⟨bg, 0, none⟩), Value.pointer (some ⟨bk, 0, none⟩)].toArray)].toArray 111 (0, 0)), dat (sl ruleR g.rv.1 g.rules), dat (sl lexR g.xv.1 g.lexes)] (fun v H' => ∃ v2, v2.oneCell' = true ∧ H' = [blk bl (.cells [v2].toArray 66 (0, 0)), row v2 71 6 (L ++ ndT (gmE g) (treeE x) L.length up w).length (rows ndqR (L ++ ndT (gmE g) (treeE x) L.length up w)), blk bw (.cells [iv ((w + lvT (treeE x) : Nat) : Int)].toArray 3 (0, 0)), blk bg (.cells [g.tv.1, g.fv.1, g.rv.1, g.xv.1, g.start.nv.1].toArray 32 (0, 0)), blk bk (.cells [(.func (.func 47) #[] [Value.pointer (some ⟨bl, 0, none⟩), Value.pointer (some ⟨bw, 0, none⟩), Value.pointer (some ⟨bg, 0, none⟩), Value.pointer (some ⟨bk, 0, none⟩)].toArray)].toArray 111 (0, 0))]) := by
 intro x
 induction x using TreeD.ind
 rename_i x ih
 intro up L w vl hvl hw hg hsz hsw
 refine FnH.body (args := [treeV x, iv up] ++ [Value.pointer (some ⟨bl, 0, none⟩), Value.pointer (some ⟨bw, 0, none⟩), Value.pointer (some ⟨bg, 0, none⟩), Value.pointer (some ⟨bk, 0, none⟩)]) 73 Tryd.func47 rfl Tryd.ntmps47 rfl (fun c => ?_)
 refine St.seq ?_
 have hE := ndT_E (gmE g) x L.length up w
 obtain ⟨hrl, hle, hkg⟩ := goodT_E x hg
 rw [nzT_E] at hsz
 have hlvE := lvT_E x
 rw [hlvE] at hsw
 refine St.openTree x ?_
 refine St.wf x.kv.1 (fun hxw hxl => ?_)
 have hL0 : (L ++ [(⟨L.length, false, [], up, 0, w, 0⟩ : Nq)]).length = L.length + 1 := by rw [List.length_append]; rfl
 obtain ⟨w1, hw1⟩ : ∃ w1, w1 = w + (if x.rule < 0 then 1 else 0) := ⟨_, rfl⟩
 obtain ⟨lf, hlf⟩ : ∃ lf, lf = decide (x.rule < 0) := ⟨_, rfl⟩
 obtain ⟨lab, hlab⟩ : ∃ lab, lab = labT (gmE g) x.rule x.lex := ⟨_, rfl⟩
 have hL1 : (L ++ [(⟨L.length, lf, lab, up, 0, w, 0⟩ : Nq)]).length = L.length + 1 := by rw [List.length_append]; rfl
 rw [← hw1, ← hlf, ← hlab] at hE
 have hw1b : w1 ≤ w + (if x.rule < 0 then 1 else 0) := by omega
 refine St.rg ?_
 refine St.boxA (.mk rfl) rfl (fun b6 => ?_)
 refine St.nil (St.then_normal (St.seq (St.rg ?_)))
 refine St.ev _ (Ev.ldb (.mk rfl) Tryd.underlying66 trivial (by rfl)) rfl ?_
 refine St.ev _ (Ev.lenrow (.mk rfl) Tryd.underlying66) rfl ?_
 refine St.asg ?_
 refine St.nil (St.then_normal (St.seq (St.rg ?_)))
 refine St.ev _ (Ev.ldb (.mk rfl) Tryd.underlying66 trivial (by rfl)) rfl ?_
 refine St.mv ?_
 refine St.ev _ (Ev.ldb (.mk rfl) Tryd.underlying3 trivial (by rfl)) rfl ?_
 refine St.ev _ (Ev.build (ps := [(2, (.tmp 14)), (4, (.tmp 15))]) (Opds.cons (Opd.mk rfl) (Opds.cons (Opd.mk rfl) Opds.nil)) (fun w => bld71_2_4 rfl rfl w)) rfl ?_
 refine St.bsl rfl (.cons (.mk rfl) .nil) Tryd.underlying66 sz71 zv71 rfl rfl (by simp [Value.cells]) rfl rfl (fun b17 => ?_)
 refine St.appendRow (.mk rfl) (.mk rfl) Tryd.underlying66 sz71 zv71 by71 (by simp [Value.oneCell', Value.cells]) (by omega) (by omega) rfl rfl rfl rfl (fun v18 hv18 => ?_)
 refine St.rowEqN v18 (show _ = (L ++ [(⟨L.length, false, [], up, 0, w, 0⟩ : Nq)]).length from hL0.symm) (show _ = rows ndqR (L ++ [(⟨L.length, false, [], up, 0, w, 0⟩ : Nq)]) by rw [rows_snoc]; rfl) ?_
 refine St.rowOne v18 (fun h18 _ => ?_)
 refine St.rowShape v18 (by omega) (fun bs cs hsh => ?_)
 refine St.store1 (.mk rfl) (.mk rfl) sz66 h18 (by rfl) ?_
 refine St.nil (St.then_normal ?_)
 refine St.join (ι := Unit) (fun u T => T) (fun u => [blk b6 (.cells (treeC x).toArray 35 (0, 0)), blk bl (.cells [v18].toArray 66 (0, 0)), row v18 71 6 (L ++ [(⟨L.length, lf, lab, up, 0, w, 0⟩ : Nq)]).length (rows ndqR (L ++ [(⟨L.length, lf, lab, up, 0, w, 0⟩ : Nq)])), blk bw (.cells [iv ((w1 : Nat) : Int)].toArray 3 (0, 0)), blk bg (.cells [g.tv.1, g.fv.1, g.rv.1, g.xv.1, g.start.nv.1].toArray 32 (0, 0)), blk bk (.cells [(.func (.func 47) #[] [Value.pointer (some ⟨bl, 0, none⟩), Value.pointer (some ⟨bw, 0, none⟩), Value.pointer (some ⟨bg, 0, none⟩), Value.pointer (some ⟨bk, 0, none⟩)].toArray)].toArray 111 (0, 0)), dat (sl treeR x.kv.1 x.kids), dat (dall treeD x.kids), dat (sl ruleR g.rv.1 g.rules), dat (sl lexR g.xv.1 g.lexes)]) (fun u => True) (Keep.cons 2 rfl (Keep.cons 3 rfl (Keep.cons 5 rfl (Keep.cons 6 rfl (Keep.cons 8 rfl Keep.nil))))) ?_ ?_
 ·skip
  refine St.seq (St.rg ?_)
  refine St.ev _ (Ev.fldb0 (.mk rfl) fo35_0) rfl ?_
  refine St.ev _ (Ev.ldb (.mk rfl) Tryd.underlying3 trivial (by rfl)) rfl ?_
  refine St.ev _ (Ev.lss (.mk rfl) (.mk rfl)) rfl ?_
  refine St.nil (St.then_normal ?_)
  refine St.cond _ rfl (fun h21 => ?_) (fun h21 => ?_)
  ·skip
   try simp only [jbAll] at h21
   obtain ⟨hk0, hx0, hx1⟩ := hle h21
   obtain ⟨lx, hlx⟩ := some_of_lt (show x.lex.toNat < g.lexes.length by omega)
   have hlf1 : lf = true := by rw [hlf]; exact decide_eq_true h21
   have hlb : lab = lx.word := by rw [hlab, labT, if_pos h21, List.getD_eq_getElem?_getD, show (gmE g).lexes = g.lexes.map lxE from rfl, List.getElem?_map, hlx]; rfl
   have hww : w1 = w + 1 := by rw [hw1, if_pos h21]
   subst hlf1; subst hlb
   refine St.seq ?_
   refine St.parL [row v18 71 6 (L ++ [(⟨L.length, false, [], up, 0, w, 0⟩ : Nq)]).length (rows ndqR (L ++ [(⟨L.length, false, [], up, 0, w, 0⟩ : Nq)]))] mixed ?_
   refine SW.defer 0 (by repeat (first | refine NP.then ?_ | refine NP.inBlock ?_ | exact NP.body)) (by kernel_rfl) rfl (fun R => Ev.ldb (.mk rfl) Tryd.underlying66 trivial (by rfl)) (by kernel_rfl) rfl ?_
   refine SW.defer 1 (by repeat (first | refine NP.then ?_ | refine NP.inBlock ?_ | exact NP.body)) (by kernel_rfl) rfl (fun R => Ev.move (.mk rfl)) (by kernel_rfl) rfl ?_
   refine SW.defer 2 (by repeat (first | refine NP.then ?_ | refine NP.inBlock ?_ | exact NP.body)) (by kernel_rfl) rfl (fun R => Ev.ldb (.mk rfl) Tryd.underlying66 trivial (by rfl)) (by kernel_rfl) rfl ?_
   refine SW.defer 3 (by repeat (first | refine NP.then ?_ | refine NP.inBlock ?_ | exact NP.body)) (by kernel_rfl) rfl (fun R => Ev.move (.mk rfl)) (by kernel_rfl) rfl ?_
   refine SW.defer 4 (by repeat (first | refine NP.then ?_ | refine NP.inBlock ?_ | exact NP.body)) (by kernel_rfl) rfl (fun R => Ev.fldb0 (.mk rfl) fo32_2) (by kernel_rfl) rfl ?_
   refine SW.defer 5 (by repeat (first | refine NP.then ?_ | refine NP.inBlock ?_ | exact NP.body)) (by kernel_rfl) rfl (fun R => Ev.ldb (.mk rfl) Tryd.underlying27 trivial (by rfl)) (by kernel_rfl) rfl ?_
   refine SW.defer 6 (by repeat (first | refine NP.then ?_ | refine NP.inBlock ?_ | exact NP.body)) (by kernel_rfl) rfl (fun R => Ev.fldb0 (.mk rfl) fo35_1) (by kernel_rfl) rfl ?_
   refine SW.defer 7 (by repeat (first | refine NP.then ?_ | refine NP.inBlock ?_ | exact NP.body)) (by kernel_rfl) rfl (fun R => Ev.ldb (.mk rfl) Tryd.underlying3 trivial (by rfl)) (by kernel_rfl) rfl ?_
   refine SW.defer 8 (by repeat (first | refine NP.then ?_ | refine NP.inBlock ?_ | exact NP.body)) (by kernel_rfl) rfl (fun R => Ev.idxaddr (k := x.lex.toNat) (.mk rfl) (.mk rfl) Tryd.underlying27 sz82 (by omega) (by omega)) (by kernel_rfl) rfl ?_
   refine SW.defer 9 (by repeat (first | refine NP.then ?_ | refine NP.inBlock ?_ | exact NP.body)) (by kernel_rfl) rfl (fun R => Ev.fldel (.mk rfl) (by omega) fo82_0) (by kernel_rfl) rfl ?_
   refine SW.defer 10 (by repeat (first | refine NP.then ?_ | refine NP.inBlock ?_ | exact NP.body)) (by kernel_rfl) rfl (fun R => Ev.ld1 (.mk rfl) hlx Tryd.underlying9 trivial rfl) (by kernel_rfl) rfl ?_
   refine SW.defer 11 (by repeat (first | refine NP.then ?_ | refine NP.inBlock ?_ | exact NP.body)) (by kernel_rfl) rfl (fun R => Ev.idxv (k := L.length) hsh (.mk rfl) (.mk rfl) Tryd.underlying66 sz71 (by omega) (by omega)) (by kernel_rfl) rfl ?_
   refine SW.defer 12 (by repeat (first | refine NP.then ?_ | refine NP.inBlock ?_ | exact NP.body)) (by kernel_rfl) rfl (fun R => Ev.fldv hsh (.mk rfl) fo71_0) (by kernel_rfl) rfl ?_
   refine SW.turn1 (i := 13) (by kernel_rfl) rfl ?_
   refine St.storerow (.mk rfl) (.mk rfl) sz4 rfl (by omega) (by decide) ?_
   refine St.nil (St.then_normal ?_)
   refine SW.go ?_
   refine SW.defer 14 (by repeat (first | refine NP.then ?_ | refine NP.inBlock ?_ | exact NP.body)) (by kernel_rfl) rfl (fun R => Ev.idxv (k := L.length) hsh (.mk rfl) (.mk rfl) Tryd.underlying66 sz71 (by omega) (by omega)) (by kernel_rfl) rfl ?_
   refine SW.defer 15 (by repeat (first | refine NP.then ?_ | refine NP.inBlock ?_ | exact NP.body)) (by kernel_rfl) rfl (fun R => Ev.fldv hsh (.mk rfl) fo71_1) (by kernel_rfl) rfl ?_
   refine SW.turn1 (i := 16) (by kernel_rfl) rfl ?_
   refine St.storerow (.mk rfl) (.mk rfl) sz9 rfl (by omega) (by decide) ?_
   refine St.nil (St.then_normal ?_)
   refine SW.go ?_
   refine SW.done (by kernel_rfl) ?_
   refine St.then_normal (St.rg ?_)
   refine St.ev _ (Ev.ldb (.mk rfl) Tryd.underlying3 trivial (by rfl)) rfl ?_
   refine St.ev _ (Ev.add (.mk rfl) (.mk rfl) (by omega)) rfl ?_
   refine St.store1 (.mk rfl) (.mk rfl) sz3 rfl (by rfl) ?_
   refine St.blkEq bw (L' := [iv ((w + 1 : Nat) : Int)]) rfl ?_
   refine St.nil (St.then_normal ?_)
   refine St.rowEqN v18 (hL0.trans hL1.symm) (show _ = rows ndqR (L ++ [(⟨L.length, true, lx.word, up, 0, w, 0⟩ : Nq)]) from (by simp only [rows_snoc, rowq_set]; rfl)) ?_
   refine St.blkEq bw (L' := [iv ((w1 : Nat) : Int)]) (by rw [hww]) ?_
   refine St.met () trivial (by repeat (first | exact Sub.nil | refine Sub.cons (by first | rfl | exact congrArg (fun z => some (iv z)) (by first | omega | (dsimp only; omega)) | exact congrArg (fun z => some (Value.bool z)) (by first | assumption | exact Eq.symm (by assumption))) ?_)) (fun _ hw => hw.sub)
  ·skip
   try simp only [jbAll] at h21
   obtain ⟨ru, hru⟩ := some_of_lt (show x.rule.toNat < g.rules.length by omega)
   have hlf1 : lf = false := by rw [hlf]; exact decide_eq_false (by omega)
   have hlb : lab = ru.name := by rw [hlab, labT, if_neg (by omega), List.getD_eq_getElem?_getD, show (gmE g).rules = g.rules.map ruE from rfl, List.getElem?_map, hru]; rfl
   have hww : w1 = w := by rw [hw1, if_neg (by omega)]; rfl
   subst hlf1; subst hlb
   refine St.parL [row v18 71 6 (L ++ [(⟨L.length, false, [], up, 0, w, 0⟩ : Nq)]).length (rows ndqR (L ++ [(⟨L.length, false, [], up, 0, w, 0⟩ : Nq)]))] mixed ?_
   refine SW.defer 0 (by repeat (first | refine NP.then ?_ | refine NP.inBlock ?_ | exact NP.body)) (by kernel_rfl) rfl (fun R => Ev.ldb (.mk rfl) Tryd.underlying66 trivial (by rfl)) (by kernel_rfl) rfl ?_
   refine SW.defer 1 (by repeat (first | refine NP.then ?_ | refine NP.inBlock ?_ | exact NP.body)) (by kernel_rfl) rfl (fun R => Ev.move (.mk rfl)) (by kernel_rfl) rfl ?_
   refine SW.defer 2 (by repeat (first | refine NP.then ?_ | refine NP.inBlock ?_ | exact NP.body)) (by kernel_rfl) rfl (fun R => Ev.fldb0 (.mk rfl) fo32_1) (by kernel_rfl) rfl ?_
   refine SW.defer 3 (by repeat (first | refine NP.then ?_ | refine NP.inBlock ?_ | exact NP.body)) (by kernel_rfl) rfl (fun R => Ev.ldb (.mk rfl) Tryd.underlying26 trivial (by rfl)) (by kernel_rfl) rfl ?_
   refine SW.defer 4 (by repeat (first | refine NP.then ?_ | refine NP.inBlock ?_ | exact NP.body)) (by kernel_rfl) rfl (fun R => Ev.fldb0 (.mk rfl) fo35_0) (by kernel_rfl) rfl ?_
   refine SW.defer 5 (by repeat (first | refine NP.then ?_ | refine NP.inBlock ?_ | exact NP.body)) (by kernel_rfl) rfl (fun R => Ev.ldb (.mk rfl) Tryd.underlying3 trivial (by rfl)) (by kernel_rfl) rfl ?_
   refine SW.defer 6 (by repeat (first | refine NP.then ?_ | refine NP.inBlock ?_ | exact NP.body)) (by kernel_rfl) rfl (fun R => Ev.idxaddr (k := x.rule.toNat) (.mk rfl) (.mk rfl) Tryd.underlying26 sz91 (by omega) (by omega)) (by kernel_rfl) rfl ?_
   refine SW.defer 7 (by repeat (first | refine NP.then ?_ | refine NP.inBlock ?_ | exact NP.body)) (by kernel_rfl) rfl (fun R => Ev.fldel (.mk rfl) (by omega) fo91_0) (by kernel_rfl) rfl ?_
   refine SW.defer 8 (by repeat (first | refine NP.then ?_ | refine NP.inBlock ?_ | exact NP.body)) (by kernel_rfl) rfl (fun R => Ev.ld1 (.mk rfl) hru Tryd.underlying9 trivial rfl) (by kernel_rfl) rfl ?_
   refine SW.defer 9 (by repeat (first | refine NP.then ?_ | refine NP.inBlock ?_ | exact NP.body)) (by kernel_rfl) rfl (fun R => Ev.idxv (k := L.length) hsh (.mk rfl) (.mk rfl) Tryd.underlying66 sz71 (by omega) (by omega)) (by kernel_rfl) rfl ?_
   refine SW.defer 10 (by repeat (first | refine NP.then ?_ | refine NP.inBlock ?_ | exact NP.body)) (by kernel_rfl) rfl (fun R => Ev.fldv hsh (.mk rfl) fo71_1) (by kernel_rfl) rfl ?_
   refine SW.turn1 (i := 11) (by kernel_rfl) rfl ?_
   refine St.storerow (.mk rfl) (.mk rfl) sz9 rfl (by omega) (by decide) ?_
   refine St.nil (St.then_normal ?_)
   refine SW.go ?_
   refine SW.done (by kernel_rfl) ?_
   refine St.then_normal ?_
   refine St.rowEqN v18 (hL0.trans hL1.symm) (show _ = rows ndqR (L ++ [(⟨L.length, false, ru.name, up, 0, w, 0⟩ : Nq)]) from (by simp only [rows_snoc, rowq_set]; rfl)) ?_
   refine St.blkEq bw (L' := [iv ((w1 : Nat) : Int)]) (by rw [hww]) ?_
   refine St.met () trivial (by repeat (first | exact Sub.nil | refine Sub.cons (by first | rfl | exact congrArg (fun z => some (iv z)) (by first | omega | (dsimp only; omega)) | exact congrArg (fun z => some (Value.bool z)) (by first | assumption | exact Eq.symm (by assumption))) ?_)) (fun _ hw => hw.sub)
 ·skip
  intro _ _
  refine St.seq (St.seq (St.rg ?_))
  refine St.ev _ (Ev.fldb0 (.mk rfl) fo35_2) rfl ?_
  refine St.ev _ (Ev.ldb (.mk rfl) Tryd.underlying33 trivial (by rfl)) rfl ?_
  refine St.ev _ (Ev.lensl (.mk rfl) Tryd.underlying33) rfl ?_
  refine St.mv ?_
  refine St.nil (St.then_normal (St.block ?_))
  refine St.rowEqN v18 (show _ = (L ++ (⟨L.length, lf, lab, up, 0, w, 0⟩ : Nq) :: kkF (gmE g) (x.kids.map treeE) L.length w1 0).length by rw [kkF_zero]) (show _ = rows ndqR (L ++ (⟨L.length, lf, lab, up, 0, w, 0⟩ : Nq) :: kkF (gmE g) (x.kids.map treeE) L.length w1 0) by rw [kkF_zero]) ?_
  refine St.blkEq bw (L' := [iv ((w1 + lvL ((x.kids.map treeE).take 0) : Nat) : Int)]) (by rw [List.take_zero, lvL]; rfl) ?_
  refine St.loopH2 (ι := Nat) (κ := Value) (fun k z T => (53, iv k) :: T) (fun k z => [blk bl (.cells [z].toArray 66 (0, 0)), row z 71 6 (L ++ (⟨L.length, lf, lab, up, 0, w, 0⟩ : Nq) :: kkF (gmE g) (x.kids.map treeE) L.length w1 k).length (rows ndqR (L ++ (⟨L.length, lf, lab, up, 0, w, 0⟩ : Nq) :: kkF (gmE g) (x.kids.map treeE) L.length w1 k)), blk bw (.cells [iv ((w1 + lvL ((x.kids.map treeE).take k) : Nat) : Int)].toArray 3 (0, 0)), blk bg (.cells [g.tv.1, g.fv.1, g.rv.1, g.xv.1, g.start.nv.1].toArray 32 (0, 0)), blk bk (.cells [(.func (.func 47) #[] [Value.pointer (some ⟨bl, 0, none⟩), Value.pointer (some ⟨bw, 0, none⟩), Value.pointer (some ⟨bg, 0, none⟩), Value.pointer (some ⟨bk, 0, none⟩)].toArray)].toArray 111 (0, 0)), dat (sl treeR x.kv.1 x.kids), dat (dall treeD x.kids), dat (sl ruleR g.rv.1 g.rules), dat (sl lexR g.xv.1 g.lexes)]) (fun k z => k ≤ x.kids.length ∧ z.oneCell' = true) (fun k z => x.kids.length - k) 0 v18 (Keep.cons 2 rfl (Keep.cons 3 rfl (Keep.cons 5 rfl (Keep.cons 8 rfl (Keep.cons 51 rfl (Keep.cons 52 rfl Keep.nil)))))) ⟨Nat.zero_le _, h18⟩ (by repeat (first | exact Sub.nil | refine Sub.cons (by first | rfl | exact congrArg (fun z => some (iv z)) (by first | omega | (dsimp only; omega)) | exact congrArg (fun z => some (Value.bool z)) (by first | assumption | exact Eq.symm (by assumption))) ?_)) (fun _ hw => hw.sub) ?_
  rintro k z ⟨hk, hz1⟩
  have hLk : (L ++ (⟨L.length, lf, lab, up, 0, w, 0⟩ : Nq) :: kkF (gmE g) (x.kids.map treeE) L.length w1 k).length = L.length + 1 + nzL ((x.kids.map treeE).take k) := by rw [List.length_append, List.length_cons, kkF_len]; omega
  refine St.seq (St.rg ?_)
  refine St.ev _ (Ev.lss (.mk rfl) (.mk rfl)) rfl ?_
  refine St.nil (St.then_normal (St.seq ?_))
  refine St.cond _ rfl (fun h54 => ?_) (fun h54 => ?_)
  ·skip
   try simp only [jbAll] at h54
   obtain ⟨y, hy⟩ := some_of_lt (show k < x.kids.length by omega)
   have hym := List.mem_of_getElem? hy
   have hyE : (x.kids.map treeE)[k]? = some (treeE y) := by rw [List.getElem?_map, hy]; rfl
   refine St.dallAt treeD x.kids (x := y) hym ?_
   have hnt := nzL_take hyE
   obtain ⟨hl1, hl2⟩ := lvL_take hyE
   refine St.skip (St.then_normal (St.seq (St.block (St.seq (St.rg ?_)))))
   refine St.ev _ (Ev.idxaddr (k := k) (.mk rfl) (.mk rfl) Tryd.underlying33 sz35 (by omega) (by omega)) rfl ?_
   refine St.ev _ (Ev.ldA (.mk rfl) hy Tryd.underlying35 trivial sz35 Cel.eq) rfl ?_
   refine St.alloc zc35 rfl (fun b10 => ?_)
   refine St.storeA (Opd.mk rfl) (Opd.mk rfl) sz35 (by first | simp only [List.length_cons, List.length_nil] | rfl) (by simp only [List.all_cons, List.all_nil, Bool.and_true, Bool.and_eq_true]; exact ⟨rfl, rfl, y.kv.2⟩) ?_
   refine St.nil (St.then_normal ?_)
   refine St.mkD (sl ruleR g.rv.1 g.rules) [sl ruleR g.rv.1 g.rules] (fun ρ h => h _ (List.mem_cons_self ..)) ?_
   refine St.mkD (sl lexR g.xv.1 g.lexes) [sl lexR g.xv.1 g.lexes] (fun ρ h => h _ (List.mem_cons_self ..)) ?_
   refine St.rg ?_
   refine St.ev _ (Ev.ldb (.mk rfl) Tryd.underlying111 trivial (by rfl)) rfl ?_
   refine St.ev _ (Ev.ldbA (.mk rfl) Tryd.underlying35 trivial (by exact sz35)) rfl ?_
   refine St.mv ?_
   refine St.callc (ih y hym (L.length : Nat) (L ++ (⟨L.length, lf, lab, up, 0, w, 0⟩ : Nq) :: kkF (gmE g) (x.kids.map treeE) L.length w1 k) (w1 + lvL ((x.kids.map treeE).take k)) z hz1 (hxw y hym) (hkg y hym) (by omega) (by omega)) cb47 (.mk rfl) (.cons (.mk rfl) (.cons (.mk rfl) .nil)) rfl ?_
   rintro v60 _ ⟨vl2, hv2, rfl⟩
   refine St.app5 ?_
   refine St.rowEqN vl2 (show _ = (L ++ (⟨L.length, lf, lab, up, 0, w, 0⟩ : Nq) :: kkF (gmE g) (x.kids.map treeE) L.length w1 (k + 1)).length by rw [hLk, kkF_succ _ hyE, List.append_assoc]; rfl) (show _ = rows ndqR (L ++ (⟨L.length, lf, lab, up, 0, w, 0⟩ : Nq) :: kkF (gmE g) (x.kids.map treeE) L.length w1 (k + 1)) by rw [hLk, kkF_succ _ hyE, List.append_assoc]; rfl) ?_
   refine St.blkEq bw (L' := [iv ((w1 + lvL ((x.kids.map treeE).take (k + 1)) : Nat) : Int)]) (by rw [hl1, Nat.add_assoc]) ?_
   refine St.nil (St.in_normal (St.then_normal (St.rg ?_)))
   refine St.ev _ (Ev.add (.mk rfl) (.mk rfl) (by omega)) rfl ?_
   refine St.mv ?_
   refine St.nil (St.then_normal ?_)
   refine St.againH2 (k + 1) vl2 ⟨by omega, hv2⟩ (by first | omega | (dsimp only; omega)) (by repeat (first | exact Sub.nil | refine Sub.cons (by first | rfl | exact congrArg (fun z => some (iv z)) (by first | omega | (dsimp only; omega)) | exact congrArg (fun z => some (Value.bool z)) (by first | assumption | exact Eq.symm (by assumption))) ?_)) (fun _ hw => hw.sub)
  ·skip
   try simp only [jbAll] at h54
   have hkl : (x.kids.map treeE).length ≤ k := by rw [List.length_map]; omega
   rw [kkF_all _ _ _ _ hkl, List.take_of_length_le hkl]
   rw [kkF_all _ _ _ _ hkl, List.take_of_length_le hkl] at hLk
   refine St.rowShape z (by omega) (fun bs cs hsh => ?_)
   refine St.exit (St.then_exit (St.then_exit (St.in_hit (St.then_normal ?_))))
   refine St.parL [row z 71 6 (L ++ (⟨L.length, lf, lab, up, 0, w, 0⟩ : Nq) :: ndL (gmE g) (x.kids.map treeE) (L.length + 1) L.length w1).length (rows ndqR (L ++ (⟨L.length, lf, lab, up, 0, w, 0⟩ : Nq) :: ndL (gmE g) (x.kids.map treeE) (L.length + 1) L.length w1))] mixed ?_
   refine SW.defer 0 (by repeat (first | refine NP.then ?_ | refine NP.inBlock ?_ | exact NP.body)) (by kernel_rfl) rfl (fun R => Ev.ldb (.mk rfl) Tryd.underlying66 trivial (by rfl)) (by kernel_rfl) rfl ?_
   refine SW.defer 1 (by repeat (first | refine NP.then ?_ | refine NP.inBlock ?_ | exact NP.body)) (by kernel_rfl) rfl (fun R => Ev.move (.mk rfl)) (by kernel_rfl) rfl ?_
   refine SW.defer 2 (by repeat (first | refine NP.then ?_ | refine NP.inBlock ?_ | exact NP.body)) (by kernel_rfl) rfl (fun R => Ev.ldb (.mk rfl) Tryd.underlying66 trivial (by rfl)) (by kernel_rfl) rfl ?_
   refine SW.defer 3 (by repeat (first | refine NP.then ?_ | refine NP.inBlock ?_ | exact NP.body)) (by kernel_rfl) rfl (fun R => Ev.move (.mk rfl)) (by kernel_rfl) rfl ?_
   refine SW.defer 4 (by repeat (first | refine NP.then ?_ | refine NP.inBlock ?_ | exact NP.body)) (by kernel_rfl) rfl (fun R => Ev.ldb (.mk rfl) Tryd.underlying66 trivial (by rfl)) (by kernel_rfl) rfl ?_
   refine SW.defer 6 (by repeat (first | refine NP.then ?_ | refine NP.inBlock ?_ | exact NP.body)) (by kernel_rfl) rfl (fun R => Ev.ldb (.mk rfl) Tryd.underlying3 trivial (by rfl)) (by kernel_rfl) rfl ?_
   refine SW.slot 68 (iv ((w + ((if x.rule < 0 then 1 else 0) + lvL (x.kids.map treeE)) : Nat) : Int)) rfl (congrArg iv (by rw [hw1]; omega)) ?_
   refine SW.turn1 (i := 5) (by kernel_rfl) rfl ?_
   refine St.ev _ (Ev.lenrow (.mk rfl) Tryd.underlying66) rfl ?_
   refine St.slot 67 (iv ((L.length + (1 + nzL (x.kids.map treeE)) : Nat) : Int)) rfl (congrArg iv (by rw [hLk]; omega)) ?_
   refine St.nil (St.then_normal ?_)
   refine SW.go ?_
   refine SW.defer 7 (by repeat (first | refine NP.then ?_ | refine NP.inBlock ?_ | exact NP.body)) (by kernel_rfl) rfl (fun R => Ev.idxv (k := L.length) hsh (.mk rfl) (.mk rfl) Tryd.underlying66 sz71 (by omega) (by omega)) (by kernel_rfl) rfl ?_
   refine SW.defer 8 (by repeat (first | refine NP.then ?_ | refine NP.inBlock ?_ | exact NP.body)) (by kernel_rfl) rfl (fun R => Ev.fldv hsh (.mk rfl) fo71_3) (by kernel_rfl) rfl ?_
   refine SW.turn1 (i := 9) (by kernel_rfl) rfl ?_
   refine St.storerow (.mk rfl) (.mk rfl) sz3 rfl (by omega) (by decide) ?_
   refine St.nil (St.then_normal ?_)
   refine SW.go ?_
   refine SW.defer 10 (by repeat (first | refine NP.then ?_ | refine NP.inBlock ?_ | exact NP.body)) (by kernel_rfl) rfl (fun R => Ev.idxv (k := L.length) hsh (.mk rfl) (.mk rfl) Tryd.underlying66 sz71 (by omega) (by omega)) (by kernel_rfl) rfl ?_
   refine SW.defer 11 (by repeat (first | refine NP.then ?_ | refine NP.inBlock ?_ | exact NP.body)) (by kernel_rfl) rfl (fun R => Ev.fldv hsh (.mk rfl) fo71_5) (by kernel_rfl) rfl ?_
   refine SW.turn1 (i := 12) (by kernel_rfl) rfl ?_
   refine St.storerow (.mk rfl) (.mk rfl) sz3 rfl (by omega) (by decide) ?_
   refine St.nil (St.then_normal ?_)
   refine SW.go ?_
   refine SW.done (by kernel_rfl) ?_
   refine St.rets_normal ?_
   refine St.rowEqN z (show _ = (L ++ ndT (gmE g) (treeE x) L.length up w).length by rw [hE, List.length_append, List.length_append]; rfl) (show _ = rows ndqR (L ++ ndT (gmE g) (treeE x) L.length up w) by rw [hE]; simp only [rowq_at, rowq_set]; rfl) ?_
   refine St.blkEq bw (L' := [iv ((w + lvT (treeE x) : Nat) : Int)]) (by rw [hlvE, hw1, Nat.add_assoc]) ?_
   refine St.rets [] [blk bl (.cells [z].toArray 66 (0, 0)), row z 71 6 (L ++ ndT (gmE g) (treeE x) L.length up w).length (rows ndqR (L ++ ndT (gmE g) (treeE x) L.length up w)), blk bw (.cells [iv ((w + lvT (treeE x) : Nat) : Int)].toArray 3 (0, 0)), blk bg (.cells [g.tv.1, g.fv.1, g.rv.1, g.xv.1, g.start.nv.1].toArray 32 (0, 0)), blk bk (.cells [(.func (.func 47) #[] [Value.pointer (some ⟨bl, 0, none⟩), Value.pointer (some ⟨bw, 0, none⟩), Value.pointer (some ⟨bg, 0, none⟩), Value.pointer (some ⟨bk, 0, none⟩)].toArray)].toArray 111 (0, 0))] Tryd.results47 trivial ?_ (fun _ hw => hw.sub)
   exact ⟨z, hz1, rfl⟩
set_option maxHeartbeats 2000000 in
theorem nodes_spec (g : GrmD) (t : TreeD) (hw : treeR.wf t) (hg : goodT g.rules.length g.lexes.length (treeE t)) (hsz : nzT (treeE t) ≤ 200) (hlv : lvT (treeE t) ≤ 200) : FnH Tryd.prog 17 #[grmV g, treeV t] ([grmD g, treeD t].map dat) (fun v H' => v.oneCell' = true ∧ H' = [dat (sl ndqR v (ndT (gmE g) (treeE t) 0 (-1) 0))]) := by
 refine FnH.body (args := [grmV g, treeV t]) 13 Tryd.func17 rfl Tryd.ntmps17 rfl (fun c => ?_)
 refine St.cast (H' := [dat (grmD g), dat (treeD t)]) rfl ?_
 refine St.seq ?_
 refine St.openD (grmD g) (fun _ : Unit => grmL g) (fun ρ h => ⟨(), h⟩) fun _ => ?_
 refine St.cast (H' := [dat (sl tyR g.tv.1 g.types), dat (dall tyD g.types), dat (sl featR g.fv.1 g.feats), dat (sl ruleR g.rv.1 g.rules), dat (dall ruleD g.rules), dat (sl lexR g.xv.1 g.lexes), dat (dall lexD g.lexes), dat (graphD g.start), dat (grmD g), dat (treeD t)]) rfl ?_
 refine St.rg ?_
 refine St.boxA (.mk rfl) rfl (fun b2 => ?_)
 refine St.boxA (.mk rfl) rfl (fun b3 => ?_)
 refine St.asg ?_
 refine St.nil (St.then_normal (St.seq (St.rg ?_)))
 refine St.alloc zc66 rfl (fun b5 => ?_)
 refine St.nil (St.then_normal (St.seq (St.rg ?_)))
 refine St.alloc zc3 rfl (fun b6 => ?_)
 refine St.store1 (.mk rfl) (.mk rfl) sz3 rfl (by rfl) ?_
 refine St.blkEq b6 (L' := [iv ((0 : Nat) : Int)]) rfl ?_
 refine St.nil (St.then_normal (St.seq (St.rg ?_)))
 refine St.alloc zc111 rfl (fun b7 => ?_)
 refine St.nil (St.then_normal (St.seq (St.rg ?_)))
 refine St.ev _ (Ev.func (.cons (.mk rfl) (.cons (.mk rfl) (.cons (.mk rfl) (.cons (.mk rfl) .nil))))) rfl ?_
 refine St.store1 (.mk rfl) (.mk rfl) sz111 rfl (by rfl) ?_
 refine St.nil (St.then_normal (St.seq ?_))
 refine St.mkD (sl ruleR g.rv.1 g.rules) [sl ruleR g.rv.1 g.rules] (fun ρ h => h _ (List.mem_cons_self ..)) ?_
 refine St.mkD (sl lexR g.xv.1 g.lexes) [sl lexR g.xv.1 g.lexes] (fun ρ h => h _ (List.mem_cons_self ..)) ?_
 refine St.mkD (treeD t) [treeD t] (fun ρ h => h _ (List.mem_cons_self ..)) ?_
 refine St.nilrow 71 6 ?_
 refine St.rowEqN (.slice none 0 0) (show _ = ([] : List Nq).length from rfl) (show _ = rows ndqR [] from rfl) ?_
 refine St.rg ?_
 refine St.ev _ (Ev.ldb (.mk rfl) Tryd.underlying111 trivial (by rfl)) rfl ?_
 refine St.ev _ (Ev.ldbA (.mk rfl) Tryd.underlying35 trivial (by exact sz35)) rfl ?_
 refine St.callc (nodesWalk_spec b5 b6 b2 b7 g t (-1) [] 0 (.slice none 0 0) rfl hw hg (by simpa using hsz) (by simpa using hlv)) cb47 (.mk rfl) (.cons (.mk rfl) (.cons (.mk rfl) .nil)) rfl ?_
 rintro v11 _ ⟨v2, hv2, rfl⟩
 refine St.app5 ?_
 refine St.nil (St.then_normal (St.seq (St.rg ?_)))
 refine St.ev _ (Ev.ldb (.mk rfl) Tryd.underlying66 trivial (by rfl)) rfl ?_
 refine St.asg ?_
 refine St.nil (St.then_normal (St.rett ?_))
 refine St.rowEqN v2 (show _ = (ndT (gmE g) (treeE t) 0 (-1) 0).length from rfl) (show _ = rows ndqR (ndT (gmE g) (treeE t) 0 (-1) 0) from rfl) ?_
 refine St.publish v2 ndqR (ndT (gmE g) (treeE t) 0 (-1) 0) rfl rfl (fun _ _ => trivial) ?_
 refine St.rets [_] [dat (sl ndqR v2 (ndT (gmE g) (treeE t) 0 (-1) 0))] Tryd.results17 ⟨rfl, trivial⟩ ?_ (fun _ hw => hw.sub)
 exact ⟨hv2, rfl⟩
end Go.Proofs.YtolmidffiegkaaaDoor

/-
  (YtolmidffiegkaaaDoorQ28)
  The walks of what a variable and a relation ask.
  Conditions: none beyond the sizes.
-/
set_option maxRecDepth 20000
set_option linter.unusedSimpArgs false
set_option linter.unusedVariables false
namespace Go.Proofs.YtolmidffiegkaaaDoor
open Go Go.J
theorem fits_spec (va : VarD) (x : Nq) : FnV Tryd.prog 19 #[.agg #[sv va.name, iv va.kind, sv va.label], .agg #[.bool x.leaf, sv x.label, iv x.up, iv (x.fin : Int), iv (x.frm : Int), iv (x.to : Int)]] [] (.bool (fitsB va x)) := by
 refine FnV.body0 (args := [.agg #[sv va.name, iv va.kind, sv va.label], .agg #[.bool x.leaf, sv x.label, iv x.up, iv (x.fin : Int), iv (x.frm : Int), iv (x.to : Int)]]) 34 Tryd.func19 rfl Tryd.ntmps19 rfl (fun c => ?_)
 refine St.seq (St.rg ?_)
 refine St.boxA (.mk rfl) rfl (fun b2 => ?_)
 refine St.boxA (.mk rfl) rfl (fun b3 => ?_)
 refine St.asg ?_
 refine St.nil (St.then_normal (St.seq (St.seq (St.rg ?_))))
 refine St.ev _ (Ev.fldb0 (.mk rfl) fo38_1) rfl ?_
 refine St.ev _ (Ev.ldb (.mk rfl) Tryd.underlying3 trivial (by rfl)) rfl ?_
 refine St.nil (St.then_normal (St.block (St.seq (St.rg ?_))))
 refine St.ev _ (Ev.eql (.mk rfl) (.mk rfl)) rfl ?_
 refine St.asg ?_
 refine St.nil (St.then_normal ?_)
 refine St.cond _ rfl (fun h7 => ?_) (fun h7 => ?_)
 ·skip
  try simp only [jbAll] at h7
  refine St.seq (St.rg ?_)
  refine St.ev _ (Ev.fldb0 (.mk rfl) fo71_0) rfl ?_
  refine St.ev _ (Ev.ldb (.mk rfl) Tryd.underlying4 trivial (by rfl)) rfl ?_
  refine St.ev _ (Ev.not (.mk rfl)) rfl ?_
  refine St.mv ?_
  refine St.gt _ rfl rfl (fun hg => Ev.fldb0 (.mk rfl) fo71_1) rfl ?_
  refine St.gt _ rfl rfl (fun hg => Ev.ldb (Opd.gv rfl hg) Tryd.underlying9 trivial (by rfl)) rfl ?_
  refine St.gt _ rfl rfl (fun hg => Ev.fldb0 (.mk rfl) fo38_2) rfl ?_
  refine St.gt _ rfl rfl (fun hg => Ev.ldb (Opd.gv rfl hg) Tryd.underlying9 trivial (by rfl)) rfl ?_
  refine St.gt _ rfl rfl (fun hg => Ev.streq (Opd.gv rfl hg) (Opd.gv rfl hg)) rfl ?_
  refine St.ev _ (Ev.and (.mk rfl) (fun hp => Opd.gv rfl hp)) rfl ?_
  refine St.asg ?_
  refine St.nil (St.then_normal (St.rett (St.in_ret (St.then_ret ?_))))
  refine St.rets [_] [] Tryd.results19 ⟨rfl, trivial⟩ ?_ (fun _ hw => hw.sub)
  exact be (by unfold fitsB; rw [if_pos h7]; congr 1; rw [Bool.eq_iff_iff, beq_iff_eq, decide_eq_true_eq])
 ·skip
  try simp only [jbAll] at h7
  refine St.seq (St.rg ?_)
  refine St.ev _ (Ev.eql (.mk rfl) (.mk rfl)) rfl ?_
  refine St.asg ?_
  refine St.nil (St.then_normal ?_)
  refine St.cond _ rfl (fun h19 => ?_) (fun h19 => ?_)
  ·skip
   try simp only [jbAll] at h19
   refine St.seq (St.rg ?_)
   refine St.ev _ (Ev.fldb0 (.mk rfl) fo71_0) rfl ?_
   refine St.ev _ (Ev.ldb (.mk rfl) Tryd.underlying4 trivial (by rfl)) rfl ?_
   refine St.mv ?_
   refine St.gt _ rfl rfl (fun hg => Ev.fldb0 (.mk rfl) fo71_1) rfl ?_
   refine St.gt _ rfl rfl (fun hg => Ev.ldb (Opd.gv rfl hg) Tryd.underlying9 trivial (by rfl)) rfl ?_
   refine St.gt _ rfl rfl (fun hg => Ev.fldb0 (.mk rfl) fo38_2) rfl ?_
   refine St.gt _ rfl rfl (fun hg => Ev.ldb (Opd.gv rfl hg) Tryd.underlying9 trivial (by rfl)) rfl ?_
   refine St.gt _ rfl rfl (fun hg => Ev.streq (Opd.gv rfl hg) (Opd.gv rfl hg)) rfl ?_
   refine St.ev _ (Ev.and (.mk rfl) (fun hp => Opd.gv rfl hp)) rfl ?_
   refine St.asg ?_
   refine St.nil (St.then_normal (St.rett (St.in_ret (St.then_ret ?_))))
   refine St.rets [_] [] Tryd.results19 ⟨rfl, trivial⟩ ?_ (fun _ hw => hw.sub)
   exact be (by unfold fitsB; rw [if_neg h7, if_pos h19]; congr 1; rw [Bool.eq_iff_iff, beq_iff_eq, decide_eq_true_eq])
  ·skip
   try simp only [jbAll] at h19
   refine St.seq (St.rg ?_)
   refine St.ev _ (Ev.eql (.mk rfl) (.mk rfl)) rfl ?_
   refine St.asg ?_
   refine St.nil (St.then_normal ?_)
   refine St.cond _ rfl (fun h30 => ?_) (fun h30 => ?_)
   ·skip
    try simp only [jbAll] at h30
    refine St.seq (St.rg ?_)
    refine St.ev _ (Ev.fldb0 (.mk rfl) fo71_0) rfl ?_
    refine St.ev _ (Ev.ldb (.mk rfl) Tryd.underlying4 trivial (by rfl)) rfl ?_
    refine St.asg ?_
    refine St.nil (St.then_normal (St.rett (St.in_ret (St.then_ret ?_))))
    refine St.rets [_] [] Tryd.results19 ⟨rfl, trivial⟩ ?_ (fun _ hw => hw.sub)
    exact be (by unfold fitsB; rw [if_neg h7, if_neg h19, if_pos h30])
   ·skip
    try simp only [jbAll] at h30
    refine St.skip (St.in_normal (St.then_normal (St.seq (St.rg ?_))))
    refine St.asg ?_
    refine St.nil (St.then_normal (St.rett ?_))
    refine St.rets [_] [] Tryd.results19 ⟨rfl, trivial⟩ ?_ (fun _ hw => hw.sub)
    exact be (by unfold fitsB; rw [if_neg h7, if_neg h19, if_neg h30])
theorem linked_spec (v : Value) (L : List Nq) (k : Int) (a b : Nat) (ha : a < L.length) (hb : b < L.length) : FnV Tryd.prog 20 #[v, iv k, iv a, iv b] [sl ndqR v L] (.bool (linkB L k a b)) := by
 refine FnV.body1 (args := [v, iv k, iv a, iv b]) 75 Tryd.func20 rfl Tryd.ntmps20 rfl (fun c => ?_)
 refine St.seq ?_
 have hna := getD_some ha
 have hnb := getD_some hb
 refine St.wf v (fun _ hvl => ?_)
 generalize hea : L.getD a nq0 = A at hna
 generalize heb : L.getD b nq0 = B at hnb
 refine St.rg ?_
 refine St.asg ?_
 refine St.nil (St.then_normal (St.seq (St.seq (St.rg ?_))))
 refine St.mv ?_
 refine St.nil (St.then_normal (St.block (St.seq (St.rg ?_))))
 refine St.ev _ (Ev.eql (.mk rfl) (.mk rfl)) rfl ?_
 refine St.asg ?_
 refine St.nil (St.then_normal ?_)
 refine St.cond _ rfl (fun h10 => ?_) (fun h10 => ?_)
 ·skip
  try simp only [jbAll] at h10
  refine St.seq (St.rg ?_)
  refine St.mv ?_
  refine St.mv ?_
  refine St.ev _ (Ev.idxaddr (k := b) (.mk rfl) (.mk rfl) Tryd.underlying66 sz71 (by omega) (by omega)) rfl ?_
  refine St.ev _ (Ev.fldel (.mk rfl) (by omega) fo71_2) rfl ?_
  refine St.ev _ (Ev.ld1 (.mk rfl) hnb Tryd.underlying3 trivial rfl) rfl ?_
  refine St.mv ?_
  refine St.ev _ (Ev.eql (.mk rfl) (.mk rfl)) rfl ?_
  refine St.asg ?_
  refine St.nil (St.then_normal (St.rett (St.in_ret (St.then_ret ?_))))
  refine St.rets [_] [] Tryd.results20 ⟨rfl, trivial⟩ ?_ (fun _ hw => hw.sub)
  exact be (by unfold linkB; rw [if_pos h10, heb])
 ·skip
  try simp only [jbAll] at h10
  refine St.seq (St.rg ?_)
  refine St.ev _ (Ev.eql (.mk rfl) (.mk rfl)) rfl ?_
  refine St.asg ?_
  refine St.nil (St.then_normal ?_)
  refine St.cond _ rfl (fun h19 => ?_) (fun h19 => ?_)
  ·skip
   try simp only [jbAll] at h19
   refine St.seq (St.rg ?_)
   refine St.mv ?_
   refine St.mv ?_
   refine St.ev _ (Ev.lss (.mk rfl) (.mk rfl)) rfl ?_
   refine St.mv ?_
   refine St.gt _ rfl rfl (fun hg => Ev.move (.mk rfl)) rfl ?_
   refine St.gt _ rfl rfl (fun hg => Ev.move (.mk rfl)) rfl ?_
   refine St.gt _ rfl rfl (fun hg => Ev.move (.mk rfl)) rfl ?_
   refine St.gt _ rfl rfl (fun hg => Ev.idxaddr (k := a) (Opd.gv rfl hg) (Opd.gv rfl hg) Tryd.underlying66 sz71 (by first | omega | (simp only [jbAll] at hg; omega)) (by omega)) rfl ?_
   refine St.gt _ rfl rfl (fun hg => Ev.fldel (Opd.gv rfl hg) (by first | omega | (simp only [jbAll] at hg; omega)) fo71_3) rfl ?_
   refine St.gt _ rfl rfl (fun hg => Ev.ld1 (Opd.gv rfl hg) hna Tryd.underlying3 trivial rfl) rfl ?_
   refine St.gt _ rfl rfl (fun hg => Ev.lss (Opd.gv rfl hg) (Opd.gv rfl hg)) rfl ?_
   refine St.ev _ (Ev.and (.mk rfl) (fun hp => Opd.gv rfl hp)) rfl ?_
   refine St.asg ?_
   refine St.nil (St.then_normal (St.rett (St.in_ret (St.then_ret ?_))))
   refine St.rets [_] [] Tryd.results20 ⟨rfl, trivial⟩ ?_ (fun _ hw => hw.sub)
   exact be (by unfold linkB; rw [if_neg h10, if_pos h19, hea]; congr 1 <;> exact decide_eq_decide.2 (by omega))
  ·skip
   try simp only [jbAll] at h19
   refine St.seq (St.rg ?_)
   refine St.ev _ (Ev.eql (.mk rfl) (.mk rfl)) rfl ?_
   refine St.asg ?_
   refine St.nil (St.then_normal ?_)
   refine St.cond _ rfl (fun h33 => ?_) (fun h33 => ?_)
   ·skip
    try simp only [jbAll] at h33
    refine St.seq ?_
    refine St.rq mixed (by kernel_rfl) (Mm.drawn _ _) ?_
    refine Sq.ev _ (Ev.move (.mk rfl)) rfl ?_
    refine Sq.ev _ (Ev.move (.mk rfl)) rfl ?_
    refine Sq.ev _ (Ev.idxaddr (k := a) (.mk rfl) (.mk rfl) Tryd.underlying66 sz71 (by omega) (by omega)) rfl ?_
    refine Sq.ev _ (Ev.fldel (.mk rfl) (by omega) fo71_5) rfl ?_
    refine Sq.ev _ (Ev.ld1 (.mk rfl) hna Tryd.underlying3 trivial rfl) rfl ?_
    refine Sq.ev _ (Ev.move (.mk rfl)) rfl ?_
    refine Sq.ev _ (Ev.move (.mk rfl)) rfl ?_
    refine Sq.ev _ (Ev.idxaddr (k := b) (.mk rfl) (.mk rfl) Tryd.underlying66 sz71 (by omega) (by omega)) rfl ?_
    refine Sq.ev _ (Ev.fldel (.mk rfl) (by omega) fo71_4) rfl ?_
    refine Sq.ev _ (Ev.ld1 (.mk rfl) hnb Tryd.underlying3 trivial rfl) rfl ?_
    refine Sq.ev _ (Ev.leq (.mk rfl) (.mk rfl)) rfl ?_
    refine Sq.ev _ (Ev.assign (.mk rfl)) rfl ?_
    refine Sq.nil ?_
    refine St.then_normal (St.rett (St.in_ret (St.then_ret ?_)))
    refine St.rets [_] [] Tryd.results20 ⟨rfl, trivial⟩ ?_ (fun _ hw => hw.sub)
    exact be (by unfold linkB; rw [if_neg h10, if_neg h19, if_pos h33, hea, heb]; exact decide_eq_decide.2 (by omega))
   ·skip
    try simp only [jbAll] at h33
    refine St.seq (St.rg ?_)
    refine St.ev _ (Ev.eql (.mk rfl) (.mk rfl)) rfl ?_
    refine St.asg ?_
    refine St.nil (St.then_normal ?_)
    refine St.cond _ rfl (fun h46 => ?_) (fun h46 => ?_)
    ·skip
     try simp only [jbAll] at h46
     refine St.seq ?_
     refine St.rq mixed (by kernel_rfl) (Mm.drawn _ _) ?_
     refine Sq.ev _ (Ev.move (.mk rfl)) rfl ?_
     refine Sq.ev _ (Ev.move (.mk rfl)) rfl ?_
     refine Sq.ev _ (Ev.idxaddr (k := a) (.mk rfl) (.mk rfl) Tryd.underlying66 sz71 (by omega) (by omega)) rfl ?_
     refine Sq.ev _ (Ev.fldel (.mk rfl) (by omega) fo71_5) rfl ?_
     refine Sq.ev _ (Ev.ld1 (.mk rfl) hna Tryd.underlying3 trivial rfl) rfl ?_
     refine Sq.ev _ (Ev.move (.mk rfl)) rfl ?_
     refine Sq.ev _ (Ev.move (.mk rfl)) rfl ?_
     refine Sq.ev _ (Ev.idxaddr (k := b) (.mk rfl) (.mk rfl) Tryd.underlying66 sz71 (by omega) (by omega)) rfl ?_
     refine Sq.ev _ (Ev.fldel (.mk rfl) (by omega) fo71_4) rfl ?_
     refine Sq.ev _ (Ev.ld1 (.mk rfl) hnb Tryd.underlying3 trivial rfl) rfl ?_
     refine Sq.ev _ (Ev.eql (.mk rfl) (.mk rfl)) rfl ?_
     refine Sq.ev _ (Ev.assign (.mk rfl)) rfl ?_
     refine Sq.nil ?_
     refine St.then_normal (St.rett (St.in_ret (St.then_ret ?_)))
     refine St.rets [_] [] Tryd.results20 ⟨rfl, trivial⟩ ?_ (fun _ hw => hw.sub)
     exact be (by unfold linkB; rw [if_neg h10, if_neg h19, if_neg h33, if_pos h46, hea, heb]; exact decide_eq_decide.2 (by omega))
    ·skip
     try simp only [jbAll] at h46
     refine St.skip (St.in_normal (St.then_normal (St.seq ?_)))
     refine St.rq mixed (by kernel_rfl) (Mm.drawn _ _) ?_
     refine Sq.ev _ (Ev.move (.mk rfl)) rfl ?_
     refine Sq.ev _ (Ev.move (.mk rfl)) rfl ?_
     refine Sq.ev _ (Ev.neq (.mk rfl) (.mk rfl)) rfl ?_
     refine Sq.ev _ (Ev.move (.mk rfl)) rfl ?_
     refine Sq.gt _ rfl rfl (fun hg => Ev.move (.mk rfl)) rfl ?_
     refine Sq.gt _ rfl rfl (fun hg => Ev.move (.mk rfl)) rfl ?_
     refine Sq.gt _ rfl rfl (fun hg => Ev.idxaddr (k := a) (Opd.gv rfl hg) (Opd.gv rfl hg) Tryd.underlying66 sz71 (by first | omega | (simp only [jbAll] at hg; omega)) (by first | omega | (simp only [jbAll] at hg; omega))) rfl ?_
     refine Sq.gt _ rfl rfl (fun hg => Ev.fldel (Opd.gv rfl hg) (by first | omega | (simp only [jbAll] at hg; omega)) fo71_2) rfl ?_
     refine Sq.gt _ rfl rfl (fun hg => Ev.ld1 (Opd.gv rfl hg) hna Tryd.underlying3 trivial rfl) rfl ?_
     refine Sq.gt _ rfl rfl (fun hg => Ev.move (.mk rfl)) rfl ?_
     refine Sq.gt _ rfl rfl (fun hg => Ev.move (.mk rfl)) rfl ?_
     refine Sq.gt _ rfl rfl (fun hg => Ev.idxaddr (k := b) (Opd.gv rfl hg) (Opd.gv rfl hg) Tryd.underlying66 sz71 (by first | omega | (simp only [jbAll] at hg; omega)) (by first | omega | (simp only [jbAll] at hg; omega))) rfl ?_
     refine Sq.gt _ rfl rfl (fun hg => Ev.fldel (Opd.gv rfl hg) (by first | omega | (simp only [jbAll] at hg; omega)) fo71_2) rfl ?_
     refine Sq.gt _ rfl rfl (fun hg => Ev.ld1 (Opd.gv rfl hg) hnb Tryd.underlying3 trivial rfl) rfl ?_
     refine Sq.gt _ rfl rfl (fun hg => Ev.eql (Opd.gv rfl hg) (Opd.gv rfl hg)) rfl ?_
     refine Sq.ev _ (Ev.and (.mk rfl) (fun hp => Opd.gv rfl hp)) rfl ?_
     refine Sq.ev _ (Ev.assign (.mk rfl)) rfl ?_
     refine Sq.nil ?_
     refine St.then_normal (St.rett ?_)
     refine St.rets [_] [] Tryd.results20 ⟨rfl, trivial⟩ ?_ (fun _ hw => hw.sub)
     exact be (by unfold linkB; rw [if_neg h10, if_neg h19, if_neg h33, if_neg h46, hea, heb]; rw [Bool.eq_iff_iff]; simp only [Bool.and_eq_true, decide_eq_true_eq, bne_iff_ne, beq_iff_eq, ne_eq, Int.ofNat_inj, Int.natCast_inj, Bool.not_eq_true', decide_eq_false_iff_not])
end Go.Proofs.YtolmidffiegkaaaDoor

/-
  (YtolmidffiegkaaaDoorQ29)
  The walk of the search for matches.
  Conditions: none beyond the sizes.
-/
set_option maxRecDepth 20000
set_option linter.unusedSimpArgs false
set_option linter.unusedVariables false
namespace Go.Proofs.YtolmidffiegkaaaDoor
open Go Go.J
theorem rowI_at {W : List Int} {k : Nat} {x : Int} (h : W[k]? = some x) : (rows intR W)[k * 1 + 0]? = some (iv x) := by
 rw [rows_int, Nat.mul_one, Nat.add_zero, List.getElem?_map, h]; rfl
theorem rowI_rep (n : Nat) : List.replicate n (iv 0) = rows intR (List.replicate n 0) := by rw [rows_int, List.map_replicate]
theorem intsQ_wf {l : List Nat} (h : ∀ i ∈ l, i ≤ 9223372036854775807) : ∀ x ∈ ints l, intR.wf x := by
 intro x hx
 obtain ⟨i, hi, rfl⟩ := List.mem_map.1 hx
 have := h i hi
 show i64ok (i : Int)
 unfold i64ok; omega
def stepF (L : List Nq) (ks : List QLnD) (v : VarD) (vs : List VarD) (p : List Nat) (O : List (List Nat)) (i : Nat) : List (List Nat) := if 500 < O.length then O else if goB L ks v p i then tryF L ks vs (p ++ [i]) O else O
theorem tryF_step (L : List Nq) (ks : List QLnD) (v : VarD) (vs : List VarD) (p : List Nat) (O : List (List Nat)) : tryF L ks (v :: vs) p O = (List.range L.length).foldl (stepF L ks v vs p) O := rfl
theorem fold_succ {α : Type} (f : α → Nat → α) (O : α) (i : Nat) : (List.range (i + 1)).foldl f O = f ((List.range i).foldl f O) i := by rw [List.range_succ, List.foldl_append]; rfl
theorem step_stop {L : List Nq} {ks : List QLnD} {v : VarD} {vs : List VarD} {p : List Nat} {O : List (List Nat)} {i : Nat} (h : 500 < ((List.range i).foldl (stepF L ks v vs p) O).length) : ∀ m, (List.range (i + m)).foldl (stepF L ks v vs p) O = (List.range i).foldl (stepF L ks v vs p) O
 | 0 => rfl
 | m + 1 => by
  have ih := step_stop h m
  rw [show i + (m + 1) = (i + m) + 1 by omega, fold_succ, ih]
  unfold stepF; rw [if_pos]; exact h
theorem tryF_len (L : List Nq) (ks : List QLnD) (vs : List VarD) (p : List Nat) (O : List (List Nat)) (h : O.length ≤ 501) (h2 : vs = [] → O.length ≤ 500) : (tryF L ks vs p O).length ≤ 501 := by
 rw [tryF_eq L ks vs p O h h2, List.length_take]; omega
theorem take_at {B : List Int} {r : List Nat} {m j : Nat} (h : B.take m = ints r) (hm : r.length = m) (hj : j < m) : B[j]? = some ((r.getD j 0 : Nat) : Int) := by
 have h1 : (B.take m)[j]? = B[j]? := by rw [List.getElem?_take, if_pos hj]
 rw [← h1, h, ints, List.getElem?_map, List.getD_eq_getElem?_getD, List.getElem?_eq_getElem (by omega)]; rfl
theorem take_set {A : List Int} {p : List Nat} {i : Nat} (h : A.take p.length = ints p) (hl : p.length < A.length) : (A.set p.length (i : Int)).take (p.length + 1) = ints (p ++ [i]) := by
 have h0 : (A.set p.length (i : Int))[p.length]? = some (i : Int) := by rw [List.getElem?_set_self hl]
 rw [take_of_some h0, List.take_set, h, ints, ints, List.map_append, List.set_eq_of_length_le (by rw [List.length_map]; exact Nat.le_refl _)]; rfl
theorem take_less {A B : List Int} {p : List Nat} {i : Nat} (h : A.take (p ++ [i]).length = ints (p ++ [i])) : A.take p.length = ints p := by
 have h1 : (A.take (p ++ [i]).length).take p.length = A.take p.length := by rw [List.take_take, List.length_append]; congr 1; simp only [List.length_cons, List.length_nil]; omega
 rw [← h1, h, ints, ints, List.map_append, List.take_left' (by simp)]
theorem getD_mem {p : List Nat} {n j : Nat} (h : ∀ y ∈ p, y < n) (hj : j < p.length) : p.getD j 0 < n := by
 rw [List.getD_eq_getElem?_getD, List.getElem?_eq_getElem hj]
 exact h _ (List.getElem_mem hj)
theorem drop_cons {α : Type} {l : List α} {k : Nat} {v : α} {vs : List α} (h : l.drop k = v :: vs) : l[k]? = some v ∧ l.drop (k + 1) = vs := by
 have h1 : l[k]? = some v := by
  have := congrArg (fun m => m[0]?) h
  rw [List.getElem?_drop, Nat.add_zero] at this; exact this
 refine ⟨h1, ?_⟩
 have h2 := drop_of_some h1
 rw [h, List.cons.injEq] at h2
 exact h2.2.symm
set_option maxHeartbeats 4000000 in
theorem tryWalk_spec (ba bo bl bq bt : Nat) (va vl : Value) (L : List Nq) (q : QryD) (hq : QryOK q.vars q.links) : ∀ (m : Nat) (vs : List VarD) (p : List Nat) (O : List (List Nat)) (A : List Int) (vo : Value) (us : List OneV) (T : List (List Nat)), vs.length = m → T = tryF L q.links vs p O → q.vars.drop p.length = vs → p.length + vs.length = q.vars.length → A.length = q.vars.length → A.take p.length = ints p → (∀ y ∈ p, y < L.length) → vo.oneCell' = true → us.length = O.length → O.length ≤ 501 → (vs = [] → O.length ≤ 500) →
  FnH Tryd.prog 18 ([iv ((p.length : Nat) : Int)] ++ [Value.pointer (some ⟨ba, 0, none⟩), Value.pointer (some ⟨bo, 0, none⟩), Value.pointer (some ⟨bl, 0, none⟩), Value.pointer (some ⟨bq, 0, none⟩), Value.pointer (some ⟨bt, 0, none⟩)]).toArray [blk ba (.cells [va].toArray 57 (0, 0)), row va 3 1 q.vars.length (rows intR (A)), blk bo (.cells [vo].toArray 40 (0, 0)), row vo 57 1 (O).length (rows valR (us)), dat (ptw intR (us) ((O).map ints)), blk bl (.cells [vl].toArray 66 (0, 0)), blk bq (.cells [q.vv.1, q.kv.1].toArray 49 (0, 0)), blk bt (.cells [(.func (.func 18) #[] [Value.pointer (some ⟨ba, 0, none⟩), Value.pointer (some ⟨bo, 0, none⟩), Value.pointer (some ⟨bl, 0, none⟩), Value.pointer (some ⟨bq, 0, none⟩), Value.pointer (some ⟨bt, 0, none⟩)].toArray)].toArray 68 (0, 0)), dat (sl ndqR vl L), dat (sl varR q.vv.1 q.vars), dat (sl qlnR q.kv.1 q.links)] (fun v H' => ∃ A' vo' us', A'.length = q.vars.length ∧ A'.take p.length = ints p ∧ vo'.oneCell' = true ∧ us'.length = T.length ∧ H' = [blk ba (.cells [va].toArray 57 (0, 0)), row va 3 1 q.vars.length (rows intR (A')), blk bo (.cells [vo'].toArray 40 (0, 0)), row vo' 57 1 (T).length (rows valR (us')), dat (ptw intR (us') ((T).map ints)), blk bl (.cells [vl].toArray 66 (0, 0)), blk bq (.cells [q.vv.1, q.kv.1].toArray 49 (0, 0)), blk bt (.cells [(.func (.func 18) #[] [Value.pointer (some ⟨ba, 0, none⟩), Value.pointer (some ⟨bo, 0, none⟩), Value.pointer (some ⟨bl, 0, none⟩), Value.pointer (some ⟨bq, 0, none⟩), Value.pointer (some ⟨bt, 0, none⟩)].toArray)].toArray 68 (0, 0))]) := by
 intro m
 induction m using Nat.strongRecOn
 rename_i m ih
 intro vs p O A vo us T hm hT hdrop hlen hA hAt hpb hvo hul hO hO0
 refine FnH.body (args := [iv ((p.length : Nat) : Int)] ++ [Value.pointer (some ⟨ba, 0, none⟩), Value.pointer (some ⟨bo, 0, none⟩), Value.pointer (some ⟨bl, 0, none⟩), Value.pointer (some ⟨bq, 0, none⟩), Value.pointer (some ⟨bt, 0, none⟩)]) 82 Tryd.func18 rfl Tryd.ntmps18 rfl (fun c => ?_)
 refine St.seq (St.seq ?_)
 refine St.wf vl (fun _ hll => ?_)
 refine St.wf q.vv.1 (fun hvw _ => ?_)
 have hN4 := hq.few
 have hN0 := hq.pos
 have hK8 := hq.links
 refine St.rg ?_
 refine St.mv ?_
 refine St.ev _ (Ev.ldb (.mk rfl) Tryd.underlying57 trivial (by rfl)) rfl ?_
 refine St.ev _ (Ev.lenrow (.mk rfl) Tryd.underlying57) rfl ?_
 refine St.ev _ (Ev.eql (.mk rfl) (.mk rfl)) rfl ?_
 refine St.nil (St.then_normal ?_)
 refine St.cond _ rfl (fun h14 => ?_) (fun h14 => ?_)
 ·skip
  try simp only [jbAll] at h14
  have hvs : vs = [] := List.eq_nil_of_length_eq_zero (by omega)
  have hAp : A = ints p := by rw [← hAt, List.take_of_length_le (by omega)]
  have hO5 := hO0 hvs
  have hT1 : T = O ++ [p] := by rw [hT, hvs]; rfl
  have hpl : (ints p).length = p.length := ints_length p
  refine St.seq ?_
  refine St.parL [blk bo (.cells [vo].toArray 40 (0, 0)), row vo 57 1 (O).length (rows valR (us))] mixed ?_
  refine SW.defer 2 (by repeat (first | refine NP.then ?_ | refine NP.inBlock ?_ | exact NP.body)) (by kernel_rfl) rfl (fun R => Ev.ldb (.mk rfl) Tryd.underlying57 trivial (by rfl)) (by kernel_rfl) rfl ?_
  refine SW.turn2 (i := 0) (j := 1) (by kernel_rfl) rfl rfl ?_ ?_
  ·skip
   refine St.ev _ (Ev.ldb (.mk rfl) Tryd.underlying40 trivial (by rfl)) rfl ?_
   refine St.nil (St.then_normal ?_)
   refine SW.go ?_
   refine SW.turn1 (i := 1) (by kernel_rfl) rfl ?_
   refine St.bsl rfl (.nil) Tryd.underlying57 sz3 zv3 rfl rfl (by simp [Value.cells]) rfl rfl (fun b16 => ?_)
   refine St.nil (St.then_normal ?_)
   refine SW.go ?_
   refine SW.turn1 (i := 3) (by kernel_rfl) rfl ?_
   refine St.appendKeep (.mk rfl) (.mk rfl) Tryd.underlying57 sz3 zv3 by3 (rows_one _ _) (by omega) (by omega) rfl rfl (by omega) rfl (fun v18 hv18 => ?_)
   refine St.rowEqN v18 (show _ = (ints p).length by rw [hpl]; omega) (show _ = rows intR (ints p) by rw [hAp]; rfl) ?_
   refine St.rowOne v18 (fun h18 _ => ?_)
   refine St.publish v18 intR (ints p) rfl rfl (intsQ_wf fun i hi => by have := hpb i hi; omega) ?_
   refine St.nil (St.then_normal ?_)
   refine SW.go ?_
   refine SW.turn1 (i := 4) (by kernel_rfl) rfl ?_
   refine St.bsl rfl (.cons (.mk rfl) .nil) Tryd.underlying40 sz57 zv57 rfl rfl (by simp [J.cells_one h18]) rfl rfl (fun b19 => ?_)
   refine St.nil (St.then_normal ?_)
   refine SW.go ?_
   refine SW.turn1 (i := 5) (by kernel_rfl) rfl ?_
   refine St.appendRow (.mk rfl) (.mk rfl) Tryd.underlying40 sz57 zv57 by57 (by simp [J.cells_one h18, h18]) (by omega) (by omega) rfl rfl rfl rfl (fun v20 hv20 => ?_)
   refine St.rowEqN v20 (show _ = T.length by rw [hT1, List.length_append]; rfl) (show _ = rows valR (us ++ [⟨v18, h18⟩]) by rw [rows_snoc]; simp [J.cells_one h18]; rfl) ?_
   refine St.rowOne v20 (fun h20 _ => ?_)
   refine St.nil (St.then_normal ?_)
   refine SW.go ?_
   refine SW.turn1 (i := 6) (by kernel_rfl) rfl ?_
   refine St.store1 (.mk rfl) (.mk rfl) sz40 h20 (by rfl) ?_
   refine St.nil (St.then_normal ?_)
   refine SW.go ?_
   refine SW.done (by kernel_rfl) ?_
   refine St.then_normal (St.rett (St.then_ret ?_))
   refine St.ptwSnoc us ⟨v18, h18⟩ (by rw [List.length_map]; exact hul) ?_
   rw [show O.map ints ++ [ints p] = T.map ints by rw [hT1, List.map_append]; rfl]
   refine St.rets [] [blk ba (.cells [va].toArray 57 (0, 0)), row va 3 1 q.vars.length (rows intR (A)), blk bo (.cells [v20].toArray 40 (0, 0)), row v20 57 1 (T).length (rows valR (us ++ [⟨v18, h18⟩])), dat (ptw intR (us ++ [⟨v18, h18⟩]) ((T).map ints)), blk bl (.cells [vl].toArray 66 (0, 0)), blk bq (.cells [q.vv.1, q.kv.1].toArray 49 (0, 0)), blk bt (.cells [(.func (.func 18) #[] [Value.pointer (some ⟨ba, 0, none⟩), Value.pointer (some ⟨bo, 0, none⟩), Value.pointer (some ⟨bl, 0, none⟩), Value.pointer (some ⟨bq, 0, none⟩), Value.pointer (some ⟨bt, 0, none⟩)].toArray)].toArray 68 (0, 0))] Tryd.results18 trivial ?_ (fun _ hw => hw.sub)
   exact ⟨A, v20, us ++ [⟨v18, h18⟩], hA, hAt, h20, by rw [hT1, List.length_append, List.length_append, hul]; rfl, rfl⟩
  ·skip
   refine St.bsl rfl (.nil) Tryd.underlying57 sz3 zv3 rfl rfl (by simp [Value.cells]) rfl rfl (fun b16 => ?_)
   refine St.nil (St.then_normal ?_)
   refine SW.go ?_
   refine SW.turn2 (i := 0) (j := 3) (by kernel_rfl) rfl rfl ?_ ?_
   ·skip
    refine St.ev _ (Ev.ldb (.mk rfl) Tryd.underlying40 trivial (by rfl)) rfl ?_
    refine St.nil (St.then_normal ?_)
    refine SW.go ?_
    refine SW.turn1 (i := 3) (by kernel_rfl) rfl ?_
    refine St.appendKeep (.mk rfl) (.mk rfl) Tryd.underlying57 sz3 zv3 by3 (rows_one _ _) (by omega) (by omega) rfl rfl (by omega) rfl (fun v18 hv18 => ?_)
    refine St.rowEqN v18 (show _ = (ints p).length by rw [hpl]; omega) (show _ = rows intR (ints p) by rw [hAp]; rfl) ?_
    refine St.rowOne v18 (fun h18 _ => ?_)
    refine St.publish v18 intR (ints p) rfl rfl (intsQ_wf fun i hi => by have := hpb i hi; omega) ?_
    refine St.nil (St.then_normal ?_)
    refine SW.go ?_
    refine SW.turn1 (i := 4) (by kernel_rfl) rfl ?_
    refine St.bsl rfl (.cons (.mk rfl) .nil) Tryd.underlying40 sz57 zv57 rfl rfl (by simp [J.cells_one h18]) rfl rfl (fun b19 => ?_)
    refine St.nil (St.then_normal ?_)
    refine SW.go ?_
    refine SW.turn1 (i := 5) (by kernel_rfl) rfl ?_
    refine St.appendRow (.mk rfl) (.mk rfl) Tryd.underlying40 sz57 zv57 by57 (by simp [J.cells_one h18, h18]) (by omega) (by omega) rfl rfl rfl rfl (fun v20 hv20 => ?_)
    refine St.rowEqN v20 (show _ = T.length by rw [hT1, List.length_append]; rfl) (show _ = rows valR (us ++ [⟨v18, h18⟩]) by rw [rows_snoc]; simp [J.cells_one h18]; rfl) ?_
    refine St.rowOne v20 (fun h20 _ => ?_)
    refine St.nil (St.then_normal ?_)
    refine SW.go ?_
    refine SW.turn1 (i := 6) (by kernel_rfl) rfl ?_
    refine St.store1 (.mk rfl) (.mk rfl) sz40 h20 (by rfl) ?_
    refine St.nil (St.then_normal ?_)
    refine SW.go ?_
    refine SW.done (by kernel_rfl) ?_
    refine St.then_normal (St.rett (St.then_ret ?_))
    refine St.ptwSnoc us ⟨v18, h18⟩ (by rw [List.length_map]; exact hul) ?_
    rw [show O.map ints ++ [ints p] = T.map ints by rw [hT1, List.map_append]; rfl]
    refine St.rets [] [blk ba (.cells [va].toArray 57 (0, 0)), row va 3 1 q.vars.length (rows intR (A)), blk bo (.cells [v20].toArray 40 (0, 0)), row v20 57 1 (T).length (rows valR (us ++ [⟨v18, h18⟩])), dat (ptw intR (us ++ [⟨v18, h18⟩]) ((T).map ints)), blk bl (.cells [vl].toArray 66 (0, 0)), blk bq (.cells [q.vv.1, q.kv.1].toArray 49 (0, 0)), blk bt (.cells [(.func (.func 18) #[] [Value.pointer (some ⟨ba, 0, none⟩), Value.pointer (some ⟨bo, 0, none⟩), Value.pointer (some ⟨bl, 0, none⟩), Value.pointer (some ⟨bq, 0, none⟩), Value.pointer (some ⟨bt, 0, none⟩)].toArray)].toArray 68 (0, 0))] Tryd.results18 trivial ?_ (fun _ hw => hw.sub)
    exact ⟨A, v20, us ++ [⟨v18, h18⟩], hA, hAt, h20, by rw [hT1, List.length_append, List.length_append, hul]; rfl, rfl⟩
   ·skip
    refine St.appendKeep (.mk rfl) (.mk rfl) Tryd.underlying57 sz3 zv3 by3 (rows_one _ _) (by omega) (by omega) rfl rfl (by omega) rfl (fun v18 hv18 => ?_)
    refine St.rowEqN v18 (show _ = (ints p).length by rw [hpl]; omega) (show _ = rows intR (ints p) by rw [hAp]; rfl) ?_
    refine St.rowOne v18 (fun h18 _ => ?_)
    refine St.publish v18 intR (ints p) rfl rfl (intsQ_wf fun i hi => by have := hpb i hi; omega) ?_
    refine St.nil (St.then_normal ?_)
    refine SW.go ?_
    refine SW.turn2 (i := 0) (j := 4) (by kernel_rfl) rfl rfl ?_ ?_
    ·skip
     refine St.ev _ (Ev.ldb (.mk rfl) Tryd.underlying40 trivial (by rfl)) rfl ?_
     refine St.nil (St.then_normal ?_)
     refine SW.go ?_
     refine SW.turn1 (i := 4) (by kernel_rfl) rfl ?_
     refine St.bsl rfl (.cons (.mk rfl) .nil) Tryd.underlying40 sz57 zv57 rfl rfl (by simp [J.cells_one h18]) rfl rfl (fun b19 => ?_)
     refine St.nil (St.then_normal ?_)
     refine SW.go ?_
     refine SW.turn1 (i := 5) (by kernel_rfl) rfl ?_
     refine St.appendRow (.mk rfl) (.mk rfl) Tryd.underlying40 sz57 zv57 by57 (by simp [J.cells_one h18, h18]) (by omega) (by omega) rfl rfl rfl rfl (fun v20 hv20 => ?_)
     refine St.rowEqN v20 (show _ = T.length by rw [hT1, List.length_append]; rfl) (show _ = rows valR (us ++ [⟨v18, h18⟩]) by rw [rows_snoc]; simp [J.cells_one h18]; rfl) ?_
     refine St.rowOne v20 (fun h20 _ => ?_)
     refine St.nil (St.then_normal ?_)
     refine SW.go ?_
     refine SW.turn1 (i := 6) (by kernel_rfl) rfl ?_
     refine St.store1 (.mk rfl) (.mk rfl) sz40 h20 (by rfl) ?_
     refine St.nil (St.then_normal ?_)
     refine SW.go ?_
     refine SW.done (by kernel_rfl) ?_
     refine St.then_normal (St.rett (St.then_ret ?_))
     refine St.ptwSnoc us ⟨v18, h18⟩ (by rw [List.length_map]; exact hul) ?_
     rw [show O.map ints ++ [ints p] = T.map ints by rw [hT1, List.map_append]; rfl]
     refine St.rets [] [blk ba (.cells [va].toArray 57 (0, 0)), row va 3 1 q.vars.length (rows intR (A)), blk bo (.cells [v20].toArray 40 (0, 0)), row v20 57 1 (T).length (rows valR (us ++ [⟨v18, h18⟩])), dat (ptw intR (us ++ [⟨v18, h18⟩]) ((T).map ints)), blk bl (.cells [vl].toArray 66 (0, 0)), blk bq (.cells [q.vv.1, q.kv.1].toArray 49 (0, 0)), blk bt (.cells [(.func (.func 18) #[] [Value.pointer (some ⟨ba, 0, none⟩), Value.pointer (some ⟨bo, 0, none⟩), Value.pointer (some ⟨bl, 0, none⟩), Value.pointer (some ⟨bq, 0, none⟩), Value.pointer (some ⟨bt, 0, none⟩)].toArray)].toArray 68 (0, 0))] Tryd.results18 trivial ?_ (fun _ hw => hw.sub)
     exact ⟨A, v20, us ++ [⟨v18, h18⟩], hA, hAt, h20, by rw [hT1, List.length_append, List.length_append, hul]; rfl, rfl⟩
    ·skip
     refine St.bsl rfl (.cons (.mk rfl) .nil) Tryd.underlying40 sz57 zv57 rfl rfl (by simp [J.cells_one h18]) rfl rfl (fun b19 => ?_)
     refine St.nil (St.then_normal ?_)
     refine SW.go ?_
     refine SW.turn1 (i := 0) (by kernel_rfl) rfl ?_
     refine St.ev _ (Ev.ldb (.mk rfl) Tryd.underlying40 trivial (by rfl)) rfl ?_
     refine St.nil (St.then_normal ?_)
     refine SW.go ?_
     refine SW.turn1 (i := 5) (by kernel_rfl) rfl ?_
     refine St.appendRow (.mk rfl) (.mk rfl) Tryd.underlying40 sz57 zv57 by57 (by simp [J.cells_one h18, h18]) (by omega) (by omega) rfl rfl rfl rfl (fun v20 hv20 => ?_)
     refine St.rowEqN v20 (show _ = T.length by rw [hT1, List.length_append]; rfl) (show _ = rows valR (us ++ [⟨v18, h18⟩]) by rw [rows_snoc]; simp [J.cells_one h18]; rfl) ?_
     refine St.rowOne v20 (fun h20 _ => ?_)
     refine St.nil (St.then_normal ?_)
     refine SW.go ?_
     refine SW.turn1 (i := 6) (by kernel_rfl) rfl ?_
     refine St.store1 (.mk rfl) (.mk rfl) sz40 h20 (by rfl) ?_
     refine St.nil (St.then_normal ?_)
     refine SW.go ?_
     refine SW.done (by kernel_rfl) ?_
     refine St.then_normal (St.rett (St.then_ret ?_))
     refine St.ptwSnoc us ⟨v18, h18⟩ (by rw [List.length_map]; exact hul) ?_
     rw [show O.map ints ++ [ints p] = T.map ints by rw [hT1, List.map_append]; rfl]
     refine St.rets [] [blk ba (.cells [va].toArray 57 (0, 0)), row va 3 1 q.vars.length (rows intR (A)), blk bo (.cells [v20].toArray 40 (0, 0)), row v20 57 1 (T).length (rows valR (us ++ [⟨v18, h18⟩])), dat (ptw intR (us ++ [⟨v18, h18⟩]) ((T).map ints)), blk bl (.cells [vl].toArray 66 (0, 0)), blk bq (.cells [q.vv.1, q.kv.1].toArray 49 (0, 0)), blk bt (.cells [(.func (.func 18) #[] [Value.pointer (some ⟨ba, 0, none⟩), Value.pointer (some ⟨bo, 0, none⟩), Value.pointer (some ⟨bl, 0, none⟩), Value.pointer (some ⟨bq, 0, none⟩), Value.pointer (some ⟨bt, 0, none⟩)].toArray)].toArray 68 (0, 0))] Tryd.results18 trivial ?_ (fun _ hw => hw.sub)
     exact ⟨A, v20, us ++ [⟨v18, h18⟩], hA, hAt, h20, by rw [hT1, List.length_append, List.length_append, hul]; rfl, rfl⟩
 ·skip
  try simp only [jbAll] at h14
  obtain ⟨vr, ws, hvs⟩ := List.exists_cons_of_length_pos (show 0 < vs.length by omega)
  subst hvs
  rw [tryF_step] at hT
  obtain ⟨hvr, hdr⟩ := drop_cons hdrop
  rw [List.length_cons] at hlen hm
  refine St.skip (St.then_normal (St.seq (St.rg ?_)))
  refine St.ev _ (Ev.ldb (.mk rfl) Tryd.underlying66 trivial (by rfl)) rfl ?_
  refine St.ev _ (Ev.lensl (.mk rfl) Tryd.underlying66) rfl ?_
  refine St.mv ?_
  refine St.nil (St.then_normal (St.block ?_))
  refine St.loopH2 (ι := Nat) (κ := List Int × Value × List OneV × List (List Nat)) (fun i z T => (23, iv i) :: T) (fun i z => [blk ba (.cells [va].toArray 57 (0, 0)), row va 3 1 q.vars.length (rows intR (z.1)), blk bo (.cells [z.2.1].toArray 40 (0, 0)), row z.2.1 57 1 (z.2.2.2).length (rows valR (z.2.2.1)), dat (ptw intR (z.2.2.1) ((z.2.2.2).map ints)), blk bl (.cells [vl].toArray 66 (0, 0)), blk bq (.cells [q.vv.1, q.kv.1].toArray 49 (0, 0)), blk bt (.cells [(.func (.func 18) #[] [Value.pointer (some ⟨ba, 0, none⟩), Value.pointer (some ⟨bo, 0, none⟩), Value.pointer (some ⟨bl, 0, none⟩), Value.pointer (some ⟨bq, 0, none⟩), Value.pointer (some ⟨bt, 0, none⟩)].toArray)].toArray 68 (0, 0)), dat (sl ndqR vl L), dat (sl varR q.vv.1 q.vars), dat (sl qlnR q.kv.1 q.links)]) (fun i z => i ≤ L.length ∧ z.1.length = q.vars.length ∧ z.1.take p.length = ints p ∧ z.2.1.oneCell' = true ∧ z.2.2.1.length = z.2.2.2.length ∧ z.2.2.2.length ≤ 501 ∧ z.2.2.2 = (List.range i).foldl (stepF L q.links vr ws p) O) (fun i z => L.length - i) 0 (A, vo, us, O) (Keep.cons 0 rfl (Keep.cons 1 rfl (Keep.cons 2 rfl (Keep.cons 3 rfl (Keep.cons 4 rfl (Keep.cons 5 rfl (Keep.cons 22 rfl Keep.nil))))))) ⟨Nat.zero_le _, hA, hAt, hvo, hul, hO, rfl⟩ (by repeat (first | exact Sub.nil | refine Sub.cons (by first | rfl | exact congrArg (fun z => some (iv z)) (by first | omega | (dsimp only; omega)) | exact congrArg (fun z => some (Value.bool z)) (by first | assumption | exact Eq.symm (by assumption))) ?_)) (fun _ hw => hw.sub) ?_
  rintro i ⟨B, wo, ws2, Oc⟩ ⟨hi, hB, hBt, hwo, hwl, hOc5, hOc⟩
  dsimp only at hB hBt hwo hwl hOc5 hOc ⊢
  refine St.seq (St.rg ?_)
  refine St.ev _ (Ev.lss (.mk rfl) (.mk rfl)) rfl ?_
  refine St.nil (St.then_normal (St.seq ?_))
  refine St.cond _ rfl (fun h24 => ?_) (fun h24 => ?_)
  ·skip
   try simp only [jbAll] at h24
   obtain ⟨nq, hnq⟩ := some_of_lt (show i < L.length by omega)
   have hgd : L.getD i nq0 = nq := by rw [List.getD_eq_getElem?_getD, hnq]; rfl
   have hpb2 : ∀ y ∈ p ++ [i], y < L.length := fun y hy => by rcases List.mem_append.1 hy with h | h; exact hpb y h; rw [List.mem_singleton.1 h]; omega
   refine St.skip (St.then_normal (St.seq (St.block (St.seq (St.rg ?_)))))
   refine St.mv ?_
   refine St.asg ?_
   refine St.nil (St.then_normal (St.seq (St.seq (St.rg ?_))))
   refine St.ev _ (Ev.ldb (.mk rfl) Tryd.underlying40 trivial (by rfl)) rfl ?_
   refine St.ev _ (Ev.lenrow (.mk rfl) Tryd.underlying40) rfl ?_
   refine St.ev _ (Ev.gtr (.mk rfl) (.mk rfl)) rfl ?_
   refine St.nil (St.then_normal ?_)
   refine St.cond _ rfl (fun h28 => ?_) (fun h28 => ?_)
   ·skip
    try simp only [jbAll] at h28
    have hTO : Oc = T := by rw [hT, show L.length = i + (L.length - i) by omega, step_stop (by rw [← hOc]; omega), hOc]
    subst hTO
    refine St.rett (St.then_ret (St.in_ret (St.then_ret (St.then_ret (St.in_ret ?_)))))
    refine St.rets [] [blk ba (.cells [va].toArray 57 (0, 0)), row va 3 1 q.vars.length (rows intR (B)), blk bo (.cells [wo].toArray 40 (0, 0)), row wo 57 1 (Oc).length (rows valR (ws2)), dat (ptw intR (ws2) ((Oc).map ints)), blk bl (.cells [vl].toArray 66 (0, 0)), blk bq (.cells [q.vv.1, q.kv.1].toArray 49 (0, 0)), blk bt (.cells [(.func (.func 18) #[] [Value.pointer (some ⟨ba, 0, none⟩), Value.pointer (some ⟨bo, 0, none⟩), Value.pointer (some ⟨bl, 0, none⟩), Value.pointer (some ⟨bq, 0, none⟩), Value.pointer (some ⟨bt, 0, none⟩)].toArray)].toArray 68 (0, 0))] Tryd.results18 trivial ?_ (fun _ hw => hw.sub)
    exact ⟨B, wo, ws2, hB, hBt, hwo, hwl, rfl⟩
   ·skip
    try simp only [jbAll] at h28
    refine St.skip (St.then_normal (St.seq (St.seq ?_)))
    refine St.rq mixed (by kernel_rfl) (Mm.drawn _ _) ?_
    refine Sq.ev _ (Ev.fldb0 (.mk rfl) fo49_0) rfl ?_
    refine Sq.ev _ (Ev.ldb (.mk rfl) Tryd.underlying39 trivial (by rfl)) rfl ?_
    refine Sq.ev _ (Ev.move (.mk rfl)) rfl ?_
    refine Sq.ev _ (Ev.idxaddr (k := p.length) (.mk rfl) (.mk rfl) Tryd.underlying39 sz38 (by omega) (by omega)) rfl ?_
    refine Sq.ev _ (Ev.ldA (.mk rfl) hvr Tryd.underlying38 trivial sz38 Cel.eq) rfl ?_
    refine Sq.ev _ (Ev.ldb (.mk rfl) Tryd.underlying66 trivial (by rfl)) rfl ?_
    refine Sq.ev _ (Ev.move (.mk rfl)) rfl ?_
    refine Sq.ev _ (Ev.idxaddr (k := i) (.mk rfl) (.mk rfl) Tryd.underlying66 sz71 (by omega) (by omega)) rfl ?_
    refine Sq.ev _ (Ev.ldA (.mk rfl) hnq Tryd.underlying71 trivial sz71 Cel.eq) rfl ?_
    refine Sq.ev _ (Ev.call (fits_spec vr nq) cb19 (.cons (.mk rfl) (.cons (.mk rfl) .nil))) rfl ?_
    refine Sq.ev _ (Ev.not (.mk rfl)) rfl ?_
    refine Sq.nil ?_
    refine St.then_normal ?_
    refine St.cond _ rfl (fun h39 => ?_) (fun h39 => ?_)
    ·skip
     skip
     have hft : fitsB vr nq = false := by simpa using h39
     have hgo : goB L q.links vr p i = false := by unfold goB; rw [hgd, hft]; rfl
     have hst : Oc = (List.range (i + 1)).foldl (stepF L q.links vr ws p) O := by rw [fold_succ, ← hOc, stepF, if_neg (by omega), hgo]; rfl
     refine St.exit (St.then_exit (St.in_hit (St.then_normal (St.rg ?_))))
     refine St.ev _ (Ev.add (.mk rfl) (.mk rfl) (by omega)) rfl ?_
     refine St.mv ?_
     refine St.nil (St.then_normal ?_)
     refine St.againH2 (i + 1) (B, wo, ws2, Oc) ⟨by omega, hB, hBt, hwo, hwl, hOc5, hst⟩ (by first | omega | (dsimp only; omega)) (by repeat (first | exact Sub.nil | refine Sub.cons (by first | rfl | exact congrArg (fun z => some (iv z)) (by first | omega | (dsimp only; omega)) | exact congrArg (fun z => some (Value.bool z)) (by first | assumption | exact Eq.symm (by assumption))) ?_)) (fun _ hw => hw.sub)
    ·skip
     skip
     have hft : fitsB vr nq = true := by simpa using h39
     refine St.skip (St.then_normal (St.seq (St.rg ?_)))
     refine St.ev _ (Ev.ldb (.mk rfl) Tryd.underlying57 trivial (by rfl)) rfl ?_
     refine St.mv ?_
     refine St.mv ?_
     refine St.ev _ (Ev.idxaddrrow (k := p.length) (.mk rfl) (.mk rfl) Tryd.underlying57 sz3 (by omega) (by omega)) rfl ?_
     refine St.storerow (.mk rfl) (.mk rfl) sz3 rfl (by omega) (by decide) ?_
     refine St.rowEq va (rowI_set _ _ _) ?_
     have hC := take_set (i := i) hBt (by omega)
     have hCl : (B.set p.length (i : Int)).length = q.vars.length := by rw [List.length_set]; exact hB
     generalize hBC : B.set p.length (i : Int) = C at hC hCl ⊢
     have hpi : (p ++ [i]).length = p.length + 1 := by rw [List.length_append]; rfl
     refine St.nil (St.then_normal (St.seq (St.rg ?_)))
     refine St.asg ?_
     refine St.nil (St.then_normal (St.seq (St.seq (St.rg ?_))))
     refine St.ev _ (Ev.fldb0 (.mk rfl) fo49_1) rfl ?_
     refine St.ev _ (Ev.ldb (.mk rfl) Tryd.underlying47 trivial (by rfl)) rfl ?_
     refine St.ev _ (Ev.lensl (.mk rfl) Tryd.underlying47) rfl ?_
     refine St.mv ?_
     refine St.nil (St.then_normal (St.block ?_))
     refine St.loopH (ι := Nat) (fun j T => (47, iv j) :: (8, .bool true) :: T) (fun j => [blk ba (.cells [va].toArray 57 (0, 0)), row va 3 1 q.vars.length (rows intR (C)), blk bo (.cells [wo].toArray 40 (0, 0)), row wo 57 1 (Oc).length (rows valR (ws2)), dat (ptw intR (ws2) ((Oc).map ints)), blk bl (.cells [vl].toArray 66 (0, 0)), blk bq (.cells [q.vv.1, q.kv.1].toArray 49 (0, 0)), blk bt (.cells [(.func (.func 18) #[] [Value.pointer (some ⟨ba, 0, none⟩), Value.pointer (some ⟨bo, 0, none⟩), Value.pointer (some ⟨bl, 0, none⟩), Value.pointer (some ⟨bq, 0, none⟩), Value.pointer (some ⟨bt, 0, none⟩)].toArray)].toArray 68 (0, 0)), dat (sl ndqR vl L), dat (sl varR q.vv.1 q.vars), dat (sl qlnR q.kv.1 q.links)]) (fun j => j ≤ q.links.length ∧ ∀ x ∈ q.links.take j, link1 L (p ++ [i]) x = true) (fun j => q.links.length - j) 0 (Keep.cons 0 rfl (Keep.cons 1 rfl (Keep.cons 2 rfl (Keep.cons 3 rfl (Keep.cons 4 rfl (Keep.cons 5 rfl (Keep.cons 22 rfl (Keep.cons 23 rfl (Keep.cons 45 rfl (Keep.cons 46 rfl Keep.nil)))))))))) ⟨Nat.zero_le _, fun x hx => by simp at hx⟩ (by repeat (first | exact Sub.nil | refine Sub.cons (by first | rfl | exact congrArg (fun z => some (iv z)) (by first | omega | (dsimp only; omega)) | exact congrArg (fun z => some (Value.bool z)) (by first | assumption | exact Eq.symm (by assumption))) ?_)) (fun _ hw => hw.sub) ?_
     rintro j ⟨hj, hall⟩
     refine St.seq (St.rg ?_)
     refine St.ev _ (Ev.lss (.mk rfl) (.mk rfl)) rfl ?_
     refine St.nil (St.then_normal (St.seq ?_))
     refine St.cond _ rfl (fun h48 => ?_) (fun h48 => ?_)
     ·skip
      try simp only [jbAll] at h48
      obtain ⟨x, hx⟩ := some_of_lt (show j < q.links.length by omega)
      have hxm := List.mem_of_getElem? hx
      obtain ⟨hx1, hx2, hx3, hx4, hx5, hx6, hx7⟩ := hq.link x hxm
      refine St.skip (St.then_normal (St.seq (St.block (St.seq (St.rg ?_)))))
      refine St.ev _ (Ev.idxaddr (k := j) (.mk rfl) (.mk rfl) Tryd.underlying47 sz46 (by omega) (by omega)) rfl ?_
      refine St.ev _ (Ev.ldA (.mk rfl) hx Tryd.underlying46 trivial sz46 Cel.eq) rfl ?_
      refine St.alloc zc46 rfl (fun b10 => ?_)
      refine St.storeA (Opd.mk rfl) (Opd.mk rfl) sz46 (by first | simp only [List.length_cons, List.length_nil] | rfl) (by simp only [List.all_cons, List.all_nil, Bool.and_true, Bool.and_eq_true]; exact ⟨rfl, rfl, rfl⟩) ?_
      refine St.nil (St.then_normal (St.seq ?_))
      refine St.parL [] mixed ?_
      refine SW.defer 0 (by repeat (first | refine NP.then ?_ | refine NP.inBlock ?_ | exact NP.body)) (by kernel_rfl) rfl (fun R => Ev.fldb0 (.mk rfl) fo46_1) (by kernel_rfl) rfl ?_
      refine SW.defer 1 (by repeat (first | refine NP.then ?_ | refine NP.inBlock ?_ | exact NP.body)) (by kernel_rfl) rfl (fun R => Ev.ldb (.mk rfl) Tryd.underlying3 trivial (by rfl)) (by kernel_rfl) rfl ?_
      refine SW.defer 2 (by repeat (first | refine NP.then ?_ | refine NP.inBlock ?_ | exact NP.body)) (by kernel_rfl) rfl (fun R => Ev.fldb0 (.mk rfl) fo46_2) (by kernel_rfl) rfl ?_
      refine SW.defer 3 (by repeat (first | refine NP.then ?_ | refine NP.inBlock ?_ | exact NP.body)) (by kernel_rfl) rfl (fun R => Ev.ldb (.mk rfl) Tryd.underlying3 trivial (by rfl)) (by kernel_rfl) rfl ?_
      refine SW.defer 4 (by repeat (first | refine NP.then ?_ | refine NP.inBlock ?_ | exact NP.body)) (by kernel_rfl) rfl (fun R => Ev.maxI (.mk rfl) (.mk rfl)) (by kernel_rfl) rfl ?_
      refine SW.defer 5 (by repeat (first | refine NP.then ?_ | refine NP.inBlock ?_ | exact NP.body)) (by kernel_rfl) rfl (fun R => Ev.move (.mk rfl)) (by kernel_rfl) rfl ?_
      refine SW.defer 6 (by repeat (first | refine NP.then ?_ | refine NP.inBlock ?_ | exact NP.body)) (by kernel_rfl) rfl (fun R => Ev.eql (.mk rfl) (.mk rfl)) (by kernel_rfl) rfl ?_
      refine SW.split 57 _ rfl (fun hs57 => ?_) (fun hs57 => ?_)
      ·skip
       have hmx : max x.a x.b = ((p ++ [i]).length : Int) - 1 := by rw [hpi]; simp only [decide_eq_true_eq, beq_iff_eq] at hs57; split at hs57 <;> omega
       have hxa : x.a.toNat < p.length + 1 := by omega
       have hxb : x.b.toNat < p.length + 1 := by omega
       have hra := take_at hC hpi hxa
       have hrb := take_at hC hpi hxb
       have hla := getD_mem hpb2 (show x.a.toNat < (p ++ [i]).length by omega)
       have hlb := getD_mem hpb2 (show x.b.toNat < (p ++ [i]).length by omega)
       refine SW.defer 7 (by repeat (first | refine NP.then ?_ | refine NP.inBlock ?_ | exact NP.body)) (by kernel_rfl) rfl (fun R => Ev.move (.mk rfl)) (by kernel_rfl) rfl ?_
       refine SW.slot 58 (.bool true) rfl (congrArg Value.bool rfl) ?_
       refine SW.gt 8 _ (by repeat (first | refine NP.then ?_ | refine NP.inBlock ?_ | exact NP.body)) (by kernel_rfl) rfl rfl rfl (fun R _ => Ev.ldb (.mk rfl) Tryd.underlying66 trivial (by rfl)) (by kernel_rfl) rfl ?_
       refine SW.slot 59 _ rfl (gv_true rfl _) ?_
       refine SW.gt 9 _ (by repeat (first | refine NP.then ?_ | refine NP.inBlock ?_ | exact NP.body)) (by kernel_rfl) rfl rfl rfl (fun R _ => Ev.fldb0 (.mk rfl) fo46_0) (by kernel_rfl) rfl ?_
       refine SW.slot 60 _ rfl (gv_true rfl _) ?_
       refine SW.gt 10 _ (by repeat (first | refine NP.then ?_ | refine NP.inBlock ?_ | exact NP.body)) (by kernel_rfl) rfl rfl rfl (fun R _ => Ev.ldb (.mk rfl) Tryd.underlying3 trivial (by rfl)) (by kernel_rfl) rfl ?_
       refine SW.slot 61 _ rfl (gv_true rfl _) ?_
       refine SW.gt 11 _ (by repeat (first | refine NP.then ?_ | refine NP.inBlock ?_ | exact NP.body)) (by kernel_rfl) rfl rfl rfl (fun R _ => Ev.ldb (.mk rfl) Tryd.underlying57 trivial (by rfl)) (by kernel_rfl) rfl ?_
       refine SW.slot 62 _ rfl (gv_true rfl _) ?_
       refine SW.gt 12 _ (by repeat (first | refine NP.then ?_ | refine NP.inBlock ?_ | exact NP.body)) (by kernel_rfl) rfl rfl rfl (fun R _ => Ev.fldb0 (.mk rfl) fo46_1) (by kernel_rfl) rfl ?_
       refine SW.slot 63 _ rfl (gv_true rfl _) ?_
       refine SW.gt 13 _ (by repeat (first | refine NP.then ?_ | refine NP.inBlock ?_ | exact NP.body)) (by kernel_rfl) rfl rfl rfl (fun R _ => Ev.ldb (.mk rfl) Tryd.underlying3 trivial (by rfl)) (by kernel_rfl) rfl ?_
       refine SW.slot 64 _ rfl (gv_true rfl _) ?_
       refine SW.gt 14 _ (by repeat (first | refine NP.then ?_ | refine NP.inBlock ?_ | exact NP.body)) (by kernel_rfl) rfl rfl rfl (fun R _ => Ev.idxaddrrow (k := x.a.toNat) (.mk rfl) (.mk rfl) Tryd.underlying57 sz3 (by omega) (by omega)) (by kernel_rfl) rfl ?_
       refine SW.slot 65 _ rfl (gv_true rfl _) ?_
       refine SW.gt 15 _ (by repeat (first | refine NP.then ?_ | refine NP.inBlock ?_ | exact NP.body)) (by kernel_rfl) rfl rfl rfl (fun R _ => Ev.ldrow (.mk rfl) Tryd.underlying3 trivial (by omega) (rowI_at hra)) (by kernel_rfl) rfl ?_
       refine SW.slot 66 _ rfl (gv_true rfl _) ?_
       refine SW.gt 16 _ (by repeat (first | refine NP.then ?_ | refine NP.inBlock ?_ | exact NP.body)) (by kernel_rfl) rfl rfl rfl (fun R _ => Ev.ldb (.mk rfl) Tryd.underlying57 trivial (by rfl)) (by kernel_rfl) rfl ?_
       refine SW.slot 67 _ rfl (gv_true rfl _) ?_
       refine SW.gt 17 _ (by repeat (first | refine NP.then ?_ | refine NP.inBlock ?_ | exact NP.body)) (by kernel_rfl) rfl rfl rfl (fun R _ => Ev.fldb0 (.mk rfl) fo46_2) (by kernel_rfl) rfl ?_
       refine SW.slot 68 _ rfl (gv_true rfl _) ?_
       refine SW.gt 18 _ (by repeat (first | refine NP.then ?_ | refine NP.inBlock ?_ | exact NP.body)) (by kernel_rfl) rfl rfl rfl (fun R _ => Ev.ldb (.mk rfl) Tryd.underlying3 trivial (by rfl)) (by kernel_rfl) rfl ?_
       refine SW.slot 69 _ rfl (gv_true rfl _) ?_
       refine SW.gt 19 _ (by repeat (first | refine NP.then ?_ | refine NP.inBlock ?_ | exact NP.body)) (by kernel_rfl) rfl rfl rfl (fun R _ => Ev.idxaddrrow (k := x.b.toNat) (.mk rfl) (.mk rfl) Tryd.underlying57 sz3 (by omega) (by omega)) (by kernel_rfl) rfl ?_
       refine SW.slot 70 _ rfl (gv_true rfl _) ?_
       refine SW.gt 20 _ (by repeat (first | refine NP.then ?_ | refine NP.inBlock ?_ | exact NP.body)) (by kernel_rfl) rfl rfl rfl (fun R _ => Ev.ldrow (.mk rfl) Tryd.underlying3 trivial (by omega) (rowI_at hrb)) (by kernel_rfl) rfl ?_
       refine SW.slot 71 _ rfl (gv_true rfl _) ?_
       refine SW.gt 21 _ (by repeat (first | refine NP.then ?_ | refine NP.inBlock ?_ | exact NP.body)) (by kernel_rfl) rfl rfl rfl (fun R _ => Ev.call (linked_spec vl L x.kind _ _ hla hlb) cb20 (.cons (.mk rfl) (.cons (.mk rfl) (.cons (.mk rfl) (.cons (.mk rfl) .nil))))) (by kernel_rfl) rfl ?_
       refine SW.slot 72 _ rfl (gv_true rfl _) ?_
       refine SW.gt 22 _ (by repeat (first | refine NP.then ?_ | refine NP.inBlock ?_ | exact NP.body)) (by kernel_rfl) rfl rfl rfl (fun R _ => Ev.not (.mk rfl)) (by kernel_rfl) rfl ?_
       refine SW.slot 73 _ rfl (gv_true rfl _) ?_
       refine SW.defer 23 (by repeat (first | refine NP.then ?_ | refine NP.inBlock ?_ | exact NP.body)) (by kernel_rfl) rfl (fun R => Ev.pickt (.mk rfl) rfl (.mk rfl)) (by kernel_rfl) rfl ?_
       refine SW.done (by kernel_rfl) ?_
       refine St.then_normal ?_
       refine St.cond _ rfl (fun h74 => ?_) (fun h74 => ?_)
       ·skip
        skip
        have hl0 : link1 L (p ++ [i]) x = false := by unfold link1; rw [decide_eq_true hmx]; simpa using h74
        have hok : okB L q.links (p ++ [i]) = false := by unfold okB; rw [List.all_eq_false]; exact ⟨x, hxm, by rw [hl0]; decide⟩
        have hgo : goB L q.links vr p i = false := by unfold goB; rw [hok, Bool.and_false]
        have hst : Oc = (List.range (i + 1)).foldl (stepF L q.links vr ws p) O := by rw [fold_succ, ← hOc, stepF, if_neg (by omega), hgo]; rfl
        refine St.seq (St.rg ?_)
        refine St.asg ?_
        refine St.nil (St.then_normal (St.exit (St.in_miss rfl (St.then_exit (St.then_exit (St.in_hit (St.then_normal (St.seq (St.rg ?_)))))))))
        refine St.mv ?_
        refine St.nil (St.then_normal ?_)
        refine St.condf _ rfl rfl ?_
        refine St.skip (St.in_normal (St.then_normal (St.rg ?_)))
        refine St.ev _ (Ev.add (.mk rfl) (.mk rfl) (by omega)) rfl ?_
        refine St.mv ?_
        refine St.nil (St.then_normal ?_)
        refine St.againH2 (i + 1) (C, wo, ws2, Oc) ⟨by omega, hCl, take_less (B := C) (i := i) (by rw [hpi]; exact hC), hwo, hwl, hOc5, hst⟩ (by first | omega | (dsimp only; omega)) (by repeat (first | exact Sub.nil | refine Sub.cons (by first | rfl | exact congrArg (fun z => some (iv z)) (by first | omega | (dsimp only; omega)) | exact congrArg (fun z => some (Value.bool z)) (by first | assumption | exact Eq.symm (by assumption))) ?_)) (fun _ hw => hw.sub)
       ·skip
        skip
        have hl1 : link1 L (p ++ [i]) x = true := by unfold link1; rw [decide_eq_true hmx]; simpa using h74
        refine St.skip (St.in_normal (St.then_normal (St.rg ?_)))
        refine St.ev _ (Ev.add (.mk rfl) (.mk rfl) (by omega)) rfl ?_
        refine St.mv ?_
        refine St.nil (St.then_normal ?_)
        refine St.againH (j + 1) ⟨by omega, fun z hz => by rw [take_of_some hx] at hz; rcases List.mem_append.1 hz with h | h; exact hall z h; rw [List.mem_singleton.1 h]; exact hl1⟩ (by first | omega | (dsimp only; omega)) (by repeat (first | exact Sub.nil | refine Sub.cons (by first | rfl | exact congrArg (fun z => some (iv z)) (by first | omega | (dsimp only; omega)) | exact congrArg (fun z => some (Value.bool z)) (by first | assumption | exact Eq.symm (by assumption))) ?_)) (fun _ hw => hw.sub)
      ·skip
       have hl1 : link1 L (p ++ [i]) x = true := by unfold link1; rw [decide_eq_false (by rw [hpi]; simp only [decide_eq_false_iff_not, beq_eq_false_iff_ne] at hs57; split at hs57 <;> omega)]; rfl
       refine SW.defer 7 (by repeat (first | refine NP.then ?_ | refine NP.inBlock ?_ | exact NP.body)) (by kernel_rfl) rfl (fun R => Ev.move (.mk rfl)) (by kernel_rfl) rfl ?_
       refine SW.slot 58 (.bool false) rfl (congrArg Value.bool rfl) ?_
       refine SW.gt 8 undef (by repeat (first | refine NP.then ?_ | refine NP.inBlock ?_ | exact NP.body)) (by kernel_rfl) rfl rfl rfl (fun R hg => by cases hg) (by kernel_rfl) rfl ?_
       refine SW.slot 59 undef rfl (gv_false rfl _) ?_
       refine SW.gt 9 undef (by repeat (first | refine NP.then ?_ | refine NP.inBlock ?_ | exact NP.body)) (by kernel_rfl) rfl rfl rfl (fun R hg => by cases hg) (by kernel_rfl) rfl ?_
       refine SW.slot 60 undef rfl (gv_false rfl _) ?_
       refine SW.gt 10 undef (by repeat (first | refine NP.then ?_ | refine NP.inBlock ?_ | exact NP.body)) (by kernel_rfl) rfl rfl rfl (fun R hg => by cases hg) (by kernel_rfl) rfl ?_
       refine SW.slot 61 undef rfl (gv_false rfl _) ?_
       refine SW.gt 11 undef (by repeat (first | refine NP.then ?_ | refine NP.inBlock ?_ | exact NP.body)) (by kernel_rfl) rfl rfl rfl (fun R hg => by cases hg) (by kernel_rfl) rfl ?_
       refine SW.slot 62 undef rfl (gv_false rfl _) ?_
       refine SW.gt 12 undef (by repeat (first | refine NP.then ?_ | refine NP.inBlock ?_ | exact NP.body)) (by kernel_rfl) rfl rfl rfl (fun R hg => by cases hg) (by kernel_rfl) rfl ?_
       refine SW.slot 63 undef rfl (gv_false rfl _) ?_
       refine SW.gt 13 undef (by repeat (first | refine NP.then ?_ | refine NP.inBlock ?_ | exact NP.body)) (by kernel_rfl) rfl rfl rfl (fun R hg => by cases hg) (by kernel_rfl) rfl ?_
       refine SW.slot 64 undef rfl (gv_false rfl _) ?_
       refine SW.gt 14 undef (by repeat (first | refine NP.then ?_ | refine NP.inBlock ?_ | exact NP.body)) (by kernel_rfl) rfl rfl rfl (fun R hg => by cases hg) (by kernel_rfl) rfl ?_
       refine SW.slot 65 undef rfl (gv_false rfl _) ?_
       refine SW.gt 15 undef (by repeat (first | refine NP.then ?_ | refine NP.inBlock ?_ | exact NP.body)) (by kernel_rfl) rfl rfl rfl (fun R hg => by cases hg) (by kernel_rfl) rfl ?_
       refine SW.slot 66 undef rfl (gv_false rfl _) ?_
       refine SW.gt 16 undef (by repeat (first | refine NP.then ?_ | refine NP.inBlock ?_ | exact NP.body)) (by kernel_rfl) rfl rfl rfl (fun R hg => by cases hg) (by kernel_rfl) rfl ?_
       refine SW.slot 67 undef rfl (gv_false rfl _) ?_
       refine SW.gt 17 undef (by repeat (first | refine NP.then ?_ | refine NP.inBlock ?_ | exact NP.body)) (by kernel_rfl) rfl rfl rfl (fun R hg => by cases hg) (by kernel_rfl) rfl ?_
       refine SW.slot 68 undef rfl (gv_false rfl _) ?_
       refine SW.gt 18 undef (by repeat (first | refine NP.then ?_ | refine NP.inBlock ?_ | exact NP.body)) (by kernel_rfl) rfl rfl rfl (fun R hg => by cases hg) (by kernel_rfl) rfl ?_
       refine SW.slot 69 undef rfl (gv_false rfl _) ?_
       refine SW.gt 19 undef (by repeat (first | refine NP.then ?_ | refine NP.inBlock ?_ | exact NP.body)) (by kernel_rfl) rfl rfl rfl (fun R hg => by cases hg) (by kernel_rfl) rfl ?_
       refine SW.slot 70 undef rfl (gv_false rfl _) ?_
       refine SW.gt 20 undef (by repeat (first | refine NP.then ?_ | refine NP.inBlock ?_ | exact NP.body)) (by kernel_rfl) rfl rfl rfl (fun R hg => by cases hg) (by kernel_rfl) rfl ?_
       refine SW.slot 71 undef rfl (gv_false rfl _) ?_
       refine SW.gt 21 undef (by repeat (first | refine NP.then ?_ | refine NP.inBlock ?_ | exact NP.body)) (by kernel_rfl) rfl rfl rfl (fun R hg => by cases hg) (by kernel_rfl) rfl ?_
       refine SW.slot 72 undef rfl (gv_false rfl _) ?_
       refine SW.gt 22 undef (by repeat (first | refine NP.then ?_ | refine NP.inBlock ?_ | exact NP.body)) (by kernel_rfl) rfl rfl rfl (fun R hg => by cases hg) (by kernel_rfl) rfl ?_
       refine SW.slot 73 undef rfl (gv_false rfl _) ?_
       refine SW.defer 23 (by repeat (first | refine NP.then ?_ | refine NP.inBlock ?_ | exact NP.body)) (by kernel_rfl) rfl (fun R => Ev.pickf (.mk rfl) rfl (.mk rfl)) (by kernel_rfl) rfl ?_
       refine SW.done (by kernel_rfl) ?_
       refine St.then_normal ?_
       refine St.cond _ rfl (fun h74 => ?_) (fun h74 => ?_)
       ·skip
        skip
        cases h74
       ·skip
        skip
        refine St.skip (St.in_normal (St.then_normal (St.rg ?_)))
        refine St.ev _ (Ev.add (.mk rfl) (.mk rfl) (by omega)) rfl ?_
        refine St.mv ?_
        refine St.nil (St.then_normal ?_)
        refine St.againH (j + 1) ⟨by omega, fun z hz => by rw [take_of_some hx] at hz; rcases List.mem_append.1 hz with h | h; exact hall z h; rw [List.mem_singleton.1 h]; exact hl1⟩ (by first | omega | (dsimp only; omega)) (by repeat (first | exact Sub.nil | refine Sub.cons (by first | rfl | exact congrArg (fun z => some (iv z)) (by first | omega | (dsimp only; omega)) | exact congrArg (fun z => some (Value.bool z)) (by first | assumption | exact Eq.symm (by assumption))) ?_)) (fun _ hw => hw.sub)
     ·skip
      try simp only [jbAll] at h48
      have hok : okB L q.links (p ++ [i]) = true := by unfold okB; rw [List.all_eq_true]; intro z hz; exact hall z (by rw [List.take_of_length_le (by omega)]; exact hz)
      have hgo : goB L q.links vr p i = true := by unfold goB; rw [hgd, hft, hok]; rfl
      refine St.exit (St.then_exit (St.then_exit (St.in_hit (St.then_normal (St.seq (St.rg ?_))))))
      refine St.mv ?_
      refine St.nil (St.then_normal ?_)
      refine St.condt _ rfl rfl ?_
      refine St.mkD (sl ndqR vl L) [sl ndqR vl L] (fun ρ h => h _ (List.mem_cons_self ..)) ?_
      refine St.mkD (sl varR q.vv.1 q.vars) [sl varR q.vv.1 q.vars] (fun ρ h => h _ (List.mem_cons_self ..)) ?_
      refine St.mkD (sl qlnR q.kv.1 q.links) [sl qlnR q.kv.1 q.links] (fun ρ h => h _ (List.mem_cons_self ..)) ?_
      obtain ⟨T3, hT3⟩ : ∃ T3, T3 = tryF L q.links ws (p ++ [i]) Oc := ⟨_, rfl⟩
      refine St.rg ?_
      refine St.ev _ (Ev.ldb (.mk rfl) Tryd.underlying68 trivial (by rfl)) rfl ?_
      refine St.mv ?_
      refine St.ev _ (Ev.add (.mk rfl) (.mk rfl) (by omega)) rfl ?_
      refine St.slot 79 (iv (((p ++ [i]).length : Nat) : Int)) rfl (congrArg iv (by rw [hpi]; rfl)) ?_
      refine St.callc (ih ws.length (by omega) ws (p ++ [i]) Oc C wo ws2 T3 rfl hT3 (by rw [hpi]; exact hdr) (by rw [hpi]; omega) hCl (by rw [hpi]; exact hC) hpb2 hwo hwl hOc5 (fun _ => by omega)) cb18 (.mk rfl) (.cons (.mk rfl) .nil) rfl ?_
      rintro v80 _ ⟨C3, vo3, us3, hC3, hC3t, hvo3, hul3, rfl⟩
      refine St.app8 ?_
      have hst : T3 = (List.range (i + 1)).foldl (stepF L q.links vr ws p) O := by rw [fold_succ, ← hOc, stepF, if_neg (by omega), hgo, hT3]; rfl
      have hT35 : T3.length ≤ 501 := by rw [hT3]; exact tryF_len _ _ _ _ _ hOc5 (fun _ => by omega)
      refine St.nil (St.in_normal (St.then_normal (St.rg ?_)))
      refine St.ev _ (Ev.add (.mk rfl) (.mk rfl) (by omega)) rfl ?_
      refine St.mv ?_
      refine St.nil (St.then_normal ?_)
      refine St.againH2 (i + 1) (C3, vo3, us3, T3) ⟨by omega, hC3, take_less (B := C3) (i := i) hC3t, hvo3, hul3, hT35, hst⟩ (by first | omega | (dsimp only; omega)) (by repeat (first | exact Sub.nil | refine Sub.cons (by first | rfl | exact congrArg (fun z => some (iv z)) (by first | omega | (dsimp only; omega)) | exact congrArg (fun z => some (Value.bool z)) (by first | assumption | exact Eq.symm (by assumption))) ?_)) (fun _ hw => hw.sub)
  ·skip
   try simp only [jbAll] at h24
   obtain rfl : i = L.length := by omega
   have hTO : Oc = T := by rw [hOc, hT]
   subst hTO
   refine St.exit (St.then_exit (St.then_exit (St.in_hit ?_)))
   refine St.rets_normal ?_
   refine St.rets [] [blk ba (.cells [va].toArray 57 (0, 0)), row va 3 1 q.vars.length (rows intR (B)), blk bo (.cells [wo].toArray 40 (0, 0)), row wo 57 1 (Oc).length (rows valR (ws2)), dat (ptw intR (ws2) ((Oc).map ints)), blk bl (.cells [vl].toArray 66 (0, 0)), blk bq (.cells [q.vv.1, q.kv.1].toArray 49 (0, 0)), blk bt (.cells [(.func (.func 18) #[] [Value.pointer (some ⟨ba, 0, none⟩), Value.pointer (some ⟨bo, 0, none⟩), Value.pointer (some ⟨bl, 0, none⟩), Value.pointer (some ⟨bq, 0, none⟩), Value.pointer (some ⟨bt, 0, none⟩)].toArray)].toArray 68 (0, 0))] Tryd.results18 trivial ?_ (fun _ hw => hw.sub)
   exact ⟨B, wo, ws2, hB, hBt, hwo, hwl, rfl⟩
end Go.Proofs.YtolmidffiegkaaaDoor
