/-
  Several texts in one: YtolmidffiegkaaaDoorQ8, YtolmidffiegkaaaDoorJ19, YtolmidffiegkaaaDoorJ30, YtolmidffiegkaaaDoorQ9, YtolmidffiegkaaaDoorQ10, YtolmidffiegkaaaDoorHierP, YtolmidffiegkaaaDoorQ11, YtolmidffiegkaaaDoorHierQ, YtolmidffiegkaaaDoorJ31, YtolmidffiegkaaaDoorQ12, YtolmidffiegkaaaDoorQTz, YtolmidffiegkaaaDoorQ13, YtolmidffiegkaaaDoorQ14, YtolmidffiegkaaaDoorGrfP.
  Conditions: none.
-/
import Derived.Test.YtolmidffiegkaaaDoorGB2
import Derived.Test.YtolmidffiegkaaaDoorGB1
import Derived.Lib.SliceRun
import Derived.Shelf.Spec.TrailingZeros
import Derived.Test.YtolmidffiegkaaaDoorChecked
/-
  (YtolmidffiegkaaaDoorQ8)
  The walk of the check of a term's nodes.
  Conditions: none beyond the sizes.
-/
set_option maxRecDepth 20000
set_option linter.unusedSimpArgs false
set_option linter.unusedVariables false
namespace Go.Proofs.YtolmidffiegkaaaDoor
open Go Go.J
theorem tmHereE (x : TermD) (b : Nat) : tmHere (termE x) b = tmOne x.kind x.name x.index (simE x.type) x.args.length b := by
 cases x with
 | mk k s i t v l => rw [termE_mk]; show tmOne k s i (simE t) (l.map termE).length b = _; rw [List.length_map]; rfl
theorem termE_kind (x : TermD) : (termE x).kind = x.kind := by cases x; rfl
theorem tm1 (nm : Str) (ix : Int) (tp : Sm0) (m b : Nat) : tmOne 1 nm ix tp m b = if ix ≠ 0 ∨ m ≠ 0 then 5 else if isName nm = false then 10 else if simF tp ≠ 0 then 12 else 0 := by unfold tmOne; rw [if_pos rfl]
theorem tm2 (nm : Str) (ix : Int) (tp : Sm0) (m b : Nat) : tmOne 2 nm ix tp m b = if nm ≠ [] ∨ noneS tp = false ∨ m ≠ 0 then 5 else if ix < 0 ∨ (b : Int) ≤ ix then 15 else 0 := by unfold tmOne; rw [if_neg (by decide), if_pos rfl]
theorem tm3 (nm : Str) (ix : Int) (tp : Sm0) (m b : Nat) : tmOne 3 nm ix tp m b = if nm ≠ [] ∨ ix ≠ 0 ∨ m ≠ 1 then 5 else if simF tp ≠ 0 then 12 else 0 := by unfold tmOne; rw [if_neg (by decide), if_neg (by decide), if_pos rfl]
theorem tm4 (nm : Str) (ix : Int) (tp : Sm0) (m b : Nat) : tmOne 4 nm ix tp m b = if nm ≠ [] ∨ ix ≠ 0 ∨ noneS tp = false ∨ m ≠ 2 then 5 else 0 := by unfold tmOne; rw [if_neg (by decide), if_neg (by decide), if_neg (by decide), if_pos rfl]
theorem tm5 {k : Int} (h1 : k ≠ 1) (h2 : k ≠ 2) (h3 : k ≠ 3) (h4 : k ≠ 4) (nm : Str) (ix : Int) (tp : Sm0) (m b : Nat) : tmOne k nm ix tp m b = 4 := by unfold tmOne; rw [if_neg h1, if_neg h2, if_neg h3, if_neg h4]
theorem one_args {α : Type} {l : List α} (h : l.length = 1) : ∃ y, l = [y] := by
 match l, h with
 | [y], _ => exact ⟨y, rfl⟩
theorem two_args {α : Type} {l : List α} (h : l.length = 2) : ∃ y z, l = [y, z] := by
 match l, h with
 | [y, z], _ => exact ⟨y, z, rfl⟩
theorem bad_spec (b : Nat) (cd at_ : Int) : FnV Tryd.prog 68 ([iv cd] ++ [Value.pointer (some ⟨b, 0, none⟩)]).toArray [cel b (iv at_)] (fv (cd, at_)) := by
 refine FnV.body1 (args := [iv cd] ++ [Value.pointer (some ⟨b, 0, none⟩)]) 7 Tryd.func68 rfl Tryd.ntmps68 rfl (fun c => ?_)
 refine St.seq (St.rg ?_)
 refine St.alloc zc42 rfl (fun b3 => ?_)
 refine St.nil (St.then_normal (St.seq (St.rg ?_)))
 refine St.mv ?_
 refine St.ev _ (Ev.ldcel (.mk rfl) Tryd.underlying3 trivial) rfl ?_
 refine St.ev _ (Ev.build (ps := [(0, (.tmp 4)), (1, (.tmp 5))]) (Opds.cons (Opd.mk rfl) (Opds.cons (Opd.mk rfl) Opds.nil)) (fun w => bld42_0_1 rfl rfl w)) rfl ?_
 refine St.storeA (Opd.mk rfl) (Opd.mk rfl) sz42 (by first | simp only [List.length_cons, List.length_nil] | rfl) rfl ?_
 refine St.nil (St.then_normal (St.rett ?_))
 refine St.rets [_] [] Tryd.results68 ⟨⟨_, _, _, _, rfl, InB.mem, .inl ⟨⟨_, Tryd.underlying42⟩, sz42, rfl⟩⟩, trivial⟩ ?_ (fun _ hw => hw.sub)
 rfl
set_option maxHeartbeats 2000000 in
theorem termWalk_spec (bn bw tw : Nat) : ∀ (x : TermD) (d b n : Nat), termR.wf x → d ≤ 100 → b ≤ d → n ≤ 200 → FnH Tryd.prog 67 ([termV x, iv (d : Nat), iv (b : Nat)] ++ [Value.pointer (some ⟨bn, 0, none⟩), Value.pointer (some ⟨bw, 0, none⟩)]).toArray [dat (termD x), blk bn (.cells [iv (n : Nat)].toArray 3 (0, 0)), blk bw (.cells [(.func (.func 67) #[] [Value.pointer (some ⟨bn, 0, none⟩), Value.pointer (some ⟨bw, 0, none⟩)].toArray)].toArray tw (0, 0))] (fun v H' => v = fv (tmW (termE x) d b n).2 ∧ H' = [blk bn (.cells [iv ((tmW (termE x) d b n).1 : Nat)].toArray 3 (0, 0)), blk bw (.cells [(.func (.func 67) #[] [Value.pointer (some ⟨bn, 0, none⟩), Value.pointer (some ⟨bw, 0, none⟩)].toArray)].toArray tw (0, 0))]) := by
 intro x
 induction x using TermD.ind
 rename_i x ih
 intro d b n hw0 hd hbd hn
 have hnl : x.name.length ≤ 9223372036854775807 := by have := hw0.2.1; omega
 refine FnH.body (args := [termV x, iv (d : Nat), iv (b : Nat)] ++ [Value.pointer (some ⟨bn, 0, none⟩), Value.pointer (some ⟨bw, 0, none⟩)]) 166 Tryd.func67 rfl Tryd.ntmps67 rfl (fun c => ?_)
 refine St.seq ?_
 have hsw := tmW_eq (termE x) d b n
 rw [tmHereE, termE_args, termE_kind] at hsw
 refine St.openTerm x ?_
 refine St.wf x.av.1 (fun hxw hxl => ?_)
 refine St.rg ?_
 refine St.boxA (.mk rfl) rfl (fun b5 => ?_)
 refine St.alloc zc42 rfl (fun b8 => ?_)
 refine St.nil (St.then_normal (St.seq (St.rg ?_)))
 refine St.ev _ (Ev.ldb (.mk rfl) Tryd.underlying3 trivial (by rfl)) rfl ?_
 refine St.alloc zc3 rfl (fun b9 => ?_)
 refine St.store1 (.mk rfl) (.mk rfl) sz3 rfl (by rfl) ?_
 refine St.nil (St.then_normal (St.seq (St.rg ?_)))
 refine St.ev _ (Ev.ldb (.mk rfl) Tryd.underlying3 trivial (by rfl)) rfl ?_
 refine St.ev _ (Ev.add (.mk rfl) (.mk rfl) (by omega)) rfl ?_
 refine St.store1 (.mk rfl) (.mk rfl) sz3 rfl (by rfl) ?_
 refine St.blkEq bn (L' := [iv ((n + 1 : Nat) : Int)]) rfl ?_
 refine St.nil (St.then_normal (St.seq (St.rg ?_)))
 refine St.ev _ (Ev.func (.cons (.mk rfl) .nil)) rfl ?_
 refine St.asg ?_
 refine St.nil (St.then_normal (St.seq (St.seq (St.rg ?_))))
 refine St.ev _ (Ev.ldb (.mk rfl) Tryd.underlying3 trivial (by rfl)) rfl ?_
 refine St.ev _ (Ev.gtr (.mk rfl) (.mk rfl)) rfl ?_
 refine St.mv ?_
 refine St.gf _ rfl rfl (fun hg => Ev.move (.mk rfl)) rfl ?_
 refine St.gf _ rfl rfl (fun hg => Ev.gtr (Opd.gv rfl hg) (.mk rfl)) rfl ?_
 refine St.ev _ (Ev.or (.mk rfl) (fun hp => Opd.gv rfl hp)) rfl ?_
 refine St.nil (St.then_normal ?_)
 refine St.cond _ rfl (fun h21 => ?_) (fun h21 => ?_)
 ·skip
  try simp only [jbAll] at h21
  rw [if_pos (by omega)] at hsw
  refine St.seq (St.rg ?_)
  refine St.mv ?_
  refine St.ev _ (Ev.callcL (bad_spec b9 1 n) cb68 (.mk rfl) (.cons (.mk rfl) .nil) (Lent.blk Lent.nil)) rfl ?_
  refine St.storeA (Opd.mk rfl) (Opd.mk rfl) sz42 (by first | simp only [List.length_cons, List.length_nil] | rfl) rfl ?_
  refine St.nil (St.then_normal (St.rett (St.then_ret ?_)))
  refine St.rets [_] [blk bn (.cells [iv ((n + 1) : Nat)].toArray 3 (0, 0)), blk bw (.cells [(.func (.func 67) #[] [Value.pointer (some ⟨bn, 0, none⟩), Value.pointer (some ⟨bw, 0, none⟩)].toArray)].toArray tw (0, 0))] Tryd.results67 ⟨⟨_, _, _, _, rfl, InB.mem, .inl ⟨⟨_, Tryd.underlying42⟩, sz42, rfl⟩⟩, trivial⟩ ?_ (fun _ hw => hw.sub)
  rw [hsw]
  exact ⟨rfl, rfl⟩
 ·skip
  try simp only [jbAll] at h21
  rw [if_neg (by omega)] at hsw
  refine St.skip (St.then_normal (St.seq (St.seq (St.rg ?_))))
  refine St.ev _ (Ev.fldb0 (.mk rfl) fo80_0) rfl ?_
  refine St.ev _ (Ev.ldb (.mk rfl) Tryd.underlying3 trivial (by rfl)) rfl ?_
  refine St.nil (St.then_normal (St.block (St.seq (St.rg ?_))))
  refine St.ev _ (Ev.eql (.mk rfl) (.mk rfl)) rfl ?_
  refine St.asg ?_
  refine St.nil (St.then_normal ?_)
  refine St.cond _ rfl (fun h28 => ?_) (fun h28 => ?_)
  ·skip
   try simp only [jbAll] at h28
   rw [h28, tm1] at hsw
   refine St.seq (St.seq (St.rg ?_))
   refine St.ev _ (Ev.fldb0 (.mk rfl) fo80_2) rfl ?_
   refine St.ev _ (Ev.ldb (.mk rfl) Tryd.underlying3 trivial (by rfl)) rfl ?_
   refine St.ev _ (Ev.neq (.mk rfl) (.mk rfl)) rfl ?_
   refine St.mv ?_
   refine St.gf _ rfl rfl (fun hg => Ev.fldb0 (.mk rfl) fo80_4) rfl ?_
   refine St.gf _ rfl rfl (fun hg => Ev.ldb (Opd.gv rfl hg) Tryd.underlying78 trivial (by rfl)) rfl ?_
   refine St.gf _ rfl rfl (fun hg => Ev.lensl (Opd.gv rfl hg) Tryd.underlying78) rfl ?_
   refine St.gf _ rfl rfl (fun hg => Ev.neq (Opd.gv rfl hg) (.mk rfl)) rfl ?_
   refine St.ev _ (Ev.or (.mk rfl) (fun hp => Opd.gv rfl hp)) rfl ?_
   refine St.nil (St.then_normal ?_)
   refine St.cond _ rfl (fun h38 => ?_) (fun h38 => ?_)
   ·skip
    try simp only [jbAll] at h38
    rw [if_pos (show x.index ≠ 0 ∨ x.args.length ≠ 0 by omega)] at hsw
    refine St.seq (St.rg ?_)
    refine St.mv ?_
    refine St.ev _ (Ev.callcL (bad_spec b9 5 n) cb68 (.mk rfl) (.cons (.mk rfl) .nil) (Lent.blk Lent.nil)) rfl ?_
    refine St.storeA (Opd.mk rfl) (Opd.mk rfl) sz42 (by first | simp only [List.length_cons, List.length_nil] | rfl) rfl ?_
    refine St.nil (St.then_normal (St.rett (St.then_ret (St.in_ret (St.then_ret ?_)))))
    refine St.rets [_] [blk bn (.cells [iv ((n + 1) : Nat)].toArray 3 (0, 0)), blk bw (.cells [(.func (.func 67) #[] [Value.pointer (some ⟨bn, 0, none⟩), Value.pointer (some ⟨bw, 0, none⟩)].toArray)].toArray tw (0, 0))] Tryd.results67 ⟨⟨_, _, _, _, rfl, InB.mem, .inl ⟨⟨_, Tryd.underlying42⟩, sz42, rfl⟩⟩, trivial⟩ ?_ (fun _ hw => hw.sub)
    rw [hsw, if_pos (by decide)]
    exact ⟨rfl, rfl⟩
   ·skip
    try simp only [jbAll] at h38
    obtain ⟨hi, hl⟩ : x.index = 0 ∧ x.args.length = 0 := by omega
    rw [if_neg (show ¬ (x.index ≠ 0 ∨ x.args.length ≠ 0) by omega)] at hsw
    refine St.skip (St.then_normal (St.seq (St.seq (St.rg ?_))))
    refine St.ev _ (Ev.fldb0 (.mk rfl) fo80_1) rfl ?_
    refine St.ev _ (Ev.ldb (.mk rfl) Tryd.underlying9 trivial (by rfl)) rfl ?_
    refine St.ev _ (Ev.call (Name_spec x.name hnl) cb40 (.cons (.mk rfl) .nil)) rfl ?_
    refine St.ev _ (Ev.not (.mk rfl)) rfl ?_
    refine St.nil (St.then_normal ?_)
    refine St.cond _ rfl (fun h44 => ?_) (fun h44 => ?_)
    ·skip
     try simp only [jbAll] at h44
     rw [if_pos (show isName x.name = false by simpa using h44)] at hsw
     refine St.seq (St.rg ?_)
     refine St.mv ?_
     refine St.ev _ (Ev.callcL (bad_spec b9 10 n) cb68 (.mk rfl) (.cons (.mk rfl) .nil) (Lent.blk Lent.nil)) rfl ?_
     refine St.storeA (Opd.mk rfl) (Opd.mk rfl) sz42 (by first | simp only [List.length_cons, List.length_nil] | rfl) rfl ?_
     refine St.nil (St.then_normal (St.rett (St.then_ret (St.in_ret (St.then_ret ?_)))))
     refine St.rets [_] [blk bn (.cells [iv ((n + 1) : Nat)].toArray 3 (0, 0)), blk bw (.cells [(.func (.func 67) #[] [Value.pointer (some ⟨bn, 0, none⟩), Value.pointer (some ⟨bw, 0, none⟩)].toArray)].toArray tw (0, 0))] Tryd.results67 ⟨⟨_, _, _, _, rfl, InB.mem, .inl ⟨⟨_, Tryd.underlying42⟩, sz42, rfl⟩⟩, trivial⟩ ?_ (fun _ hw => hw.sub)
     rw [hsw, if_pos (by decide)]
     exact ⟨rfl, rfl⟩
    ·skip
     try simp only [jbAll] at h44
     rw [if_neg (show ¬ isName x.name = false by simpa using h44)] at hsw
     refine St.skip (St.then_normal (St.seq (St.rg ?_)))
     refine St.ev _ (Ev.fldb0 (.mk rfl) fo80_3) rfl ?_
     refine St.ev _ (Ev.ldbP 2 (.mk rfl) Tryd.underlying77 trivial sz77 rfl rfl) rfl ?_
     refine St.ev _ (Ev.call (simVal_spec x.type) cb69 (.cons (.mk rfl) .nil)) rfl ?_
     refine St.ev _ (Ev.field1 (.mk rfl) Tryd.underlying42 rfl (by first | rw [Tryd.underlying3] | (dsimp only; rw [Tryd.underlying3]) | kernel_rfl) rfl) rfl ?_
     refine St.ev _ (Ev.neq (.mk rfl) (.mk rfl)) rfl ?_
     refine St.nil (St.then_normal ?_)
     refine St.cond _ rfl (fun h51 => ?_) (fun h51 => ?_)
     ·skip
      try simp only [jbAll] at h51
      rw [if_pos (show simF (simE x.type) ≠ 0 by simpa using h51)] at hsw
      refine St.seq (St.rg ?_)
      refine St.mv ?_
      refine St.ev _ (Ev.callcL (bad_spec b9 12 n) cb68 (.mk rfl) (.cons (.mk rfl) .nil) (Lent.blk Lent.nil)) rfl ?_
      refine St.storeA (Opd.mk rfl) (Opd.mk rfl) sz42 (by first | simp only [List.length_cons, List.length_nil] | rfl) rfl ?_
      refine St.nil (St.then_normal (St.rett (St.in_ret (St.then_ret ?_))))
      refine St.rets [_] [blk bn (.cells [iv ((n + 1) : Nat)].toArray 3 (0, 0)), blk bw (.cells [(.func (.func 67) #[] [Value.pointer (some ⟨bn, 0, none⟩), Value.pointer (some ⟨bw, 0, none⟩)].toArray)].toArray tw (0, 0))] Tryd.results67 ⟨⟨_, _, _, _, rfl, InB.mem, .inl ⟨⟨_, Tryd.underlying42⟩, sz42, rfl⟩⟩, trivial⟩ ?_ (fun _ hw => hw.sub)
      rw [hsw, if_pos (by decide)]
      exact ⟨rfl, rfl⟩
     ·skip
      try simp only [jbAll] at h51
      rw [if_neg (show ¬ simF (simE x.type) ≠ 0 by simpa using h51), if_neg (by decide), List.eq_nil_of_length_eq_zero hl, List.map_nil, tmWL] at hsw
      refine St.skip (St.in_normal (St.then_normal (St.seq (St.rg ?_))))
      refine St.ev _ (Ev.build (ps := []) (Opds.nil) (fun w => bld42_  w)) rfl ?_
      refine St.storeA (Opd.mk rfl) (Opd.mk rfl) sz42 (by first | simp only [List.length_cons, List.length_nil] | rfl) rfl ?_
      refine St.nil (St.then_normal (St.rett ?_))
      refine St.rets [_] [blk bn (.cells [iv ((n + 1) : Nat)].toArray 3 (0, 0)), blk bw (.cells [(.func (.func 67) #[] [Value.pointer (some ⟨bn, 0, none⟩), Value.pointer (some ⟨bw, 0, none⟩)].toArray)].toArray tw (0, 0))] Tryd.results67 ⟨⟨_, _, _, _, rfl, InB.mem, .inl ⟨⟨_, Tryd.underlying42⟩, sz42, rfl⟩⟩, trivial⟩ ?_ (fun _ hw => hw.sub)
      rw [hsw]
      exact ⟨rfl, rfl⟩
  ·skip
   try simp only [jbAll] at h28
   refine St.seq (St.rg ?_)
   refine St.ev _ (Ev.eql (.mk rfl) (.mk rfl)) rfl ?_
   refine St.asg ?_
   refine St.nil (St.then_normal ?_)
   refine St.cond _ rfl (fun h54 => ?_) (fun h54 => ?_)
   ·skip
    try simp only [jbAll] at h54
    rw [h54, tm2] at hsw
    refine St.seq (St.seq (St.rg ?_))
    refine St.ev _ (Ev.fldb0 (.mk rfl) fo80_1) rfl ?_
    refine St.ev _ (Ev.ldb (.mk rfl) Tryd.underlying9 trivial (by rfl)) rfl ?_
    refine St.ev _ (Ev.strne (.mk rfl) (.mk rfl)) rfl ?_
    refine St.mv ?_
    refine St.gf _ rfl rfl (fun hg => Ev.fldb0 (.mk rfl) fo80_3) rfl ?_
    refine St.gf _ rfl rfl (fun hg => Ev.ldbP 2 (Opd.gv rfl hg) Tryd.underlying77 trivial sz77 rfl rfl) rfl ?_
    refine St.gf _ rfl rfl (fun hg => Ev.call (none_spec x.type) cb70 (.cons (Opd.gv rfl hg) .nil)) rfl ?_
    refine St.gf _ rfl rfl (fun hg => Ev.not (Opd.gv rfl hg)) rfl ?_
    refine St.ev _ (Ev.or (.mk rfl) (fun hp => Opd.gv rfl hp)) rfl ?_
    refine St.mv ?_
    refine St.gf _ rfl rfl (fun hg => Ev.fldb0 (.mk rfl) fo80_4) rfl ?_
    refine St.gf _ rfl rfl (fun hg => Ev.ldb (Opd.gv rfl hg) Tryd.underlying78 trivial (by rfl)) rfl ?_
    refine St.gf _ rfl rfl (fun hg => Ev.lensl (Opd.gv rfl hg) Tryd.underlying78) rfl ?_
    refine St.gf _ rfl rfl (fun hg => Ev.neq (Opd.gv rfl hg) (.mk rfl)) rfl ?_
    refine St.ev _ (Ev.or (.mk rfl) (fun hp => Opd.gv rfl hp)) rfl ?_
    refine St.nil (St.then_normal ?_)
    refine St.cond _ rfl (fun h70 => ?_) (fun h70 => ?_)
    ·skip
     simp only [Bool.or_eq_true, Bool.or_eq_false_iff, Bool.not_eq_true', Bool.not_eq_false', decide_eq_true_eq, decide_eq_false_iff_not, beq_iff_eq, beq_eq_false_iff_ne] at h70
     rw [if_pos (show x.name ≠ [] ∨ noneS (simE x.type) = false ∨ x.args.length ≠ 0 by rcases h70 with (h | h) | h; exact .inl h; exact .inr (.inl h); exact .inr (.inr (by omega)))] at hsw
     refine St.seq (St.rg ?_)
     refine St.mv ?_
     refine St.ev _ (Ev.callcL (bad_spec b9 5 n) cb68 (.mk rfl) (.cons (.mk rfl) .nil) (Lent.blk Lent.nil)) rfl ?_
     refine St.storeA (Opd.mk rfl) (Opd.mk rfl) sz42 (by first | simp only [List.length_cons, List.length_nil] | rfl) rfl ?_
     refine St.nil (St.then_normal (St.rett (St.then_ret (St.in_ret (St.then_ret ?_)))))
     refine St.rets [_] [blk bn (.cells [iv ((n + 1) : Nat)].toArray 3 (0, 0)), blk bw (.cells [(.func (.func 67) #[] [Value.pointer (some ⟨bn, 0, none⟩), Value.pointer (some ⟨bw, 0, none⟩)].toArray)].toArray tw (0, 0))] Tryd.results67 ⟨⟨_, _, _, _, rfl, InB.mem, .inl ⟨⟨_, Tryd.underlying42⟩, sz42, rfl⟩⟩, trivial⟩ ?_ (fun _ hw => hw.sub)
     rw [hsw, if_pos (by decide)]
     exact ⟨rfl, rfl⟩
    ·skip
     simp only [Bool.or_eq_true, Bool.or_eq_false_iff, Bool.not_eq_true', Bool.not_eq_false', decide_eq_true_eq, decide_eq_false_iff_not, beq_iff_eq, beq_eq_false_iff_ne] at h70
     obtain ⟨⟨hq1, hq2⟩, hq3⟩ := h70
     have hl : x.args.length = 0 := by omega
     rw [if_neg (show ¬ (x.name ≠ [] ∨ noneS (simE x.type) = false ∨ x.args.length ≠ 0) by rintro (h | h | h); exact h (by simpa using hq1); rw [hq2] at h; cases h; omega)] at hsw
     refine St.skip (St.then_normal (St.seq (St.rg ?_)))
     refine St.ev _ (Ev.fldb0 (.mk rfl) fo80_2) rfl ?_
     refine St.ev _ (Ev.ldb (.mk rfl) Tryd.underlying3 trivial (by rfl)) rfl ?_
     refine St.ev _ (Ev.lss (.mk rfl) (.mk rfl)) rfl ?_
     refine St.mv ?_
     refine St.gf _ rfl rfl (fun hg => Ev.fldb0 (.mk rfl) fo80_2) rfl ?_
     refine St.gf _ rfl rfl (fun hg => Ev.ldb (Opd.gv rfl hg) Tryd.underlying3 trivial (by rfl)) rfl ?_
     refine St.gf _ rfl rfl (fun hg => Ev.move (.mk rfl)) rfl ?_
     refine St.gf _ rfl rfl (fun hg => Ev.geq (Opd.gv rfl hg) (Opd.gv rfl hg)) rfl ?_
     refine St.ev _ (Ev.or (.mk rfl) (fun hp => Opd.gv rfl hp)) rfl ?_
     refine St.nil (St.then_normal ?_)
     refine St.cond _ rfl (fun h81 => ?_) (fun h81 => ?_)
     ·skip
      try simp only [jbAll] at h81
      rw [if_pos (show x.index < 0 ∨ (b : Int) ≤ x.index by omega)] at hsw
      refine St.seq (St.rg ?_)
      refine St.mv ?_
      refine St.ev _ (Ev.callcL (bad_spec b9 15 n) cb68 (.mk rfl) (.cons (.mk rfl) .nil) (Lent.blk Lent.nil)) rfl ?_
      refine St.storeA (Opd.mk rfl) (Opd.mk rfl) sz42 (by first | simp only [List.length_cons, List.length_nil] | rfl) rfl ?_
      refine St.nil (St.then_normal (St.rett (St.in_ret (St.then_ret ?_))))
      refine St.rets [_] [blk bn (.cells [iv ((n + 1) : Nat)].toArray 3 (0, 0)), blk bw (.cells [(.func (.func 67) #[] [Value.pointer (some ⟨bn, 0, none⟩), Value.pointer (some ⟨bw, 0, none⟩)].toArray)].toArray tw (0, 0))] Tryd.results67 ⟨⟨_, _, _, _, rfl, InB.mem, .inl ⟨⟨_, Tryd.underlying42⟩, sz42, rfl⟩⟩, trivial⟩ ?_ (fun _ hw => hw.sub)
      rw [hsw, if_pos (by decide)]
      exact ⟨rfl, rfl⟩
     ·skip
      try simp only [jbAll] at h81
      rw [if_neg (show ¬ (x.index < 0 ∨ (b : Int) ≤ x.index) by omega), if_neg (by decide), List.eq_nil_of_length_eq_zero hl, List.map_nil, tmWL] at hsw
      refine St.skip (St.in_normal (St.then_normal (St.seq (St.rg ?_))))
      refine St.ev _ (Ev.build (ps := []) (Opds.nil) (fun w => bld42_  w)) rfl ?_
      refine St.storeA (Opd.mk rfl) (Opd.mk rfl) sz42 (by first | simp only [List.length_cons, List.length_nil] | rfl) rfl ?_
      refine St.nil (St.then_normal (St.rett ?_))
      refine St.rets [_] [blk bn (.cells [iv ((n + 1) : Nat)].toArray 3 (0, 0)), blk bw (.cells [(.func (.func 67) #[] [Value.pointer (some ⟨bn, 0, none⟩), Value.pointer (some ⟨bw, 0, none⟩)].toArray)].toArray tw (0, 0))] Tryd.results67 ⟨⟨_, _, _, _, rfl, InB.mem, .inl ⟨⟨_, Tryd.underlying42⟩, sz42, rfl⟩⟩, trivial⟩ ?_ (fun _ hw => hw.sub)
      rw [hsw]
      exact ⟨rfl, rfl⟩
   ·skip
    try simp only [jbAll] at h54
    refine St.seq (St.rg ?_)
    refine St.ev _ (Ev.eql (.mk rfl) (.mk rfl)) rfl ?_
    refine St.asg ?_
    refine St.nil (St.then_normal ?_)
    refine St.cond _ rfl (fun h84 => ?_) (fun h84 => ?_)
    ·skip
     try simp only [jbAll] at h84
     rw [h84, tm3] at hsw
     refine St.seq (St.seq (St.rg ?_))
     refine St.ev _ (Ev.fldb0 (.mk rfl) fo80_1) rfl ?_
     refine St.ev _ (Ev.ldb (.mk rfl) Tryd.underlying9 trivial (by rfl)) rfl ?_
     refine St.ev _ (Ev.strne (.mk rfl) (.mk rfl)) rfl ?_
     refine St.mv ?_
     refine St.gf _ rfl rfl (fun hg => Ev.fldb0 (.mk rfl) fo80_2) rfl ?_
     refine St.gf _ rfl rfl (fun hg => Ev.ldb (Opd.gv rfl hg) Tryd.underlying3 trivial (by rfl)) rfl ?_
     refine St.gf _ rfl rfl (fun hg => Ev.neq (Opd.gv rfl hg) (.mk rfl)) rfl ?_
     refine St.ev _ (Ev.or (.mk rfl) (fun hp => Opd.gv rfl hp)) rfl ?_
     refine St.mv ?_
     refine St.gf _ rfl rfl (fun hg => Ev.fldb0 (.mk rfl) fo80_4) rfl ?_
     refine St.gf _ rfl rfl (fun hg => Ev.ldb (Opd.gv rfl hg) Tryd.underlying78 trivial (by rfl)) rfl ?_
     refine St.gf _ rfl rfl (fun hg => Ev.lensl (Opd.gv rfl hg) Tryd.underlying78) rfl ?_
     refine St.gf _ rfl rfl (fun hg => Ev.neq (Opd.gv rfl hg) (.mk rfl)) rfl ?_
     refine St.ev _ (Ev.or (.mk rfl) (fun hp => Opd.gv rfl hp)) rfl ?_
     refine St.nil (St.then_normal ?_)
     refine St.cond _ rfl (fun h99 => ?_) (fun h99 => ?_)
     ·skip
      simp only [Bool.or_eq_true, Bool.or_eq_false_iff, Bool.not_eq_true', Bool.not_eq_false', decide_eq_true_eq, decide_eq_false_iff_not, beq_iff_eq, beq_eq_false_iff_ne] at h99
      rw [if_pos (show x.name ≠ [] ∨ x.index ≠ 0 ∨ x.args.length ≠ 1 by rcases h99 with (h | h) | h; exact .inl h; exact .inr (.inl h); exact .inr (.inr (by omega)))] at hsw
      refine St.seq (St.rg ?_)
      refine St.mv ?_
      refine St.ev _ (Ev.callcL (bad_spec b9 5 n) cb68 (.mk rfl) (.cons (.mk rfl) .nil) (Lent.blk Lent.nil)) rfl ?_
      refine St.storeA (Opd.mk rfl) (Opd.mk rfl) sz42 (by first | simp only [List.length_cons, List.length_nil] | rfl) rfl ?_
      refine St.nil (St.then_normal (St.rett (St.then_ret (St.in_ret (St.then_ret ?_)))))
      refine St.rets [_] [blk bn (.cells [iv ((n + 1) : Nat)].toArray 3 (0, 0)), blk bw (.cells [(.func (.func 67) #[] [Value.pointer (some ⟨bn, 0, none⟩), Value.pointer (some ⟨bw, 0, none⟩)].toArray)].toArray tw (0, 0))] Tryd.results67 ⟨⟨_, _, _, _, rfl, InB.mem, .inl ⟨⟨_, Tryd.underlying42⟩, sz42, rfl⟩⟩, trivial⟩ ?_ (fun _ hw => hw.sub)
      rw [hsw, if_pos (by decide)]
      exact ⟨rfl, rfl⟩
     ·skip
      simp only [Bool.or_eq_true, Bool.or_eq_false_iff, Bool.not_eq_true', Bool.not_eq_false', decide_eq_true_eq, decide_eq_false_iff_not, beq_iff_eq, beq_eq_false_iff_ne] at h99
      obtain ⟨⟨hq1, hq2⟩, hq3⟩ := h99
      have hl : x.args.length = 1 := by omega
      rw [if_neg (show ¬ (x.name ≠ [] ∨ x.index ≠ 0 ∨ x.args.length ≠ 1) by rintro (h | h | h); exact h (by simpa using hq1); omega; omega)] at hsw
      refine St.skip (St.then_normal (St.seq (St.seq (St.rg ?_))))
      refine St.ev _ (Ev.fldb0 (.mk rfl) fo80_3) rfl ?_
      refine St.ev _ (Ev.ldbP 2 (.mk rfl) Tryd.underlying77 trivial sz77 rfl rfl) rfl ?_
      refine St.ev _ (Ev.call (simVal_spec x.type) cb69 (.cons (.mk rfl) .nil)) rfl ?_
      refine St.ev _ (Ev.field1 (.mk rfl) Tryd.underlying42 rfl (by first | rw [Tryd.underlying3] | (dsimp only; rw [Tryd.underlying3]) | kernel_rfl) rfl) rfl ?_
      refine St.ev _ (Ev.neq (.mk rfl) (.mk rfl)) rfl ?_
      refine St.nil (St.then_normal ?_)
      refine St.cond _ rfl (fun h106 => ?_) (fun h106 => ?_)
      ·skip
       try simp only [jbAll] at h106
       rw [if_pos (show simF (simE x.type) ≠ 0 by simpa using h106)] at hsw
       refine St.seq (St.rg ?_)
       refine St.mv ?_
       refine St.ev _ (Ev.callcL (bad_spec b9 12 n) cb68 (.mk rfl) (.cons (.mk rfl) .nil) (Lent.blk Lent.nil)) rfl ?_
       refine St.storeA (Opd.mk rfl) (Opd.mk rfl) sz42 (by first | simp only [List.length_cons, List.length_nil] | rfl) rfl ?_
       refine St.nil (St.then_normal (St.rett (St.then_ret (St.in_ret (St.then_ret ?_)))))
       refine St.rets [_] [blk bn (.cells [iv ((n + 1) : Nat)].toArray 3 (0, 0)), blk bw (.cells [(.func (.func 67) #[] [Value.pointer (some ⟨bn, 0, none⟩), Value.pointer (some ⟨bw, 0, none⟩)].toArray)].toArray tw (0, 0))] Tryd.results67 ⟨⟨_, _, _, _, rfl, InB.mem, .inl ⟨⟨_, Tryd.underlying42⟩, sz42, rfl⟩⟩, trivial⟩ ?_ (fun _ hw => hw.sub)
       rw [hsw, if_pos (by decide)]
       exact ⟨rfl, rfl⟩
      ·skip
       try simp only [jbAll] at h106
       obtain ⟨y, hy⟩ := one_args hl
       rw [if_neg (show ¬ simF (simE x.type) ≠ 0 by simpa using h106), if_neg (by decide), if_pos rfl, hy, List.map_cons, List.map_nil, tmWL_one] at hsw
       refine St.dallAt termD x.args (x := y) (by rw [hy]; simp) ?_
       refine St.skip (St.then_normal (St.seq ?_))
       refine St.parL [blk bn (.cells [iv ((n + 1) : Nat)].toArray 3 (0, 0)), blk bw (.cells [(.func (.func 67) #[] [Value.pointer (some ⟨bn, 0, none⟩), Value.pointer (some ⟨bw, 0, none⟩)].toArray)].toArray tw (0, 0)), dat (termD y), blk b8 (.cells [iv 0, iv 0].toArray 42 (0, 0))] mixed ?_
       refine SW.defer 1 (by repeat (first | refine NP.then ?_ | refine NP.inBlock ?_ | exact NP.body)) (by kernel_rfl) rfl (fun R => Ev.fldb0 (.mk rfl) fo80_4) (by kernel_rfl) rfl ?_
       refine SW.defer 2 (by repeat (first | refine NP.then ?_ | refine NP.inBlock ?_ | exact NP.body)) (by kernel_rfl) rfl (fun R => Ev.ldb (.mk rfl) Tryd.underlying78 trivial (by rfl)) (by kernel_rfl) rfl ?_
       refine SW.defer 3 (by repeat (first | refine NP.then ?_ | refine NP.inBlock ?_ | exact NP.body)) (by kernel_rfl) rfl (fun R => Ev.idxaddr (k := 0) (.mk rfl) (.mk rfl) Tryd.underlying78 sz80 rfl (by omega)) (by kernel_rfl) rfl ?_
       refine SW.defer 4 (by repeat (first | refine NP.then ?_ | refine NP.inBlock ?_ | exact NP.body)) (by kernel_rfl) rfl (fun R => Ev.ldA (.mk rfl) (show x.args[0]? = some y by rw [hy]; rfl) Tryd.underlying80 trivial sz80 Cel.eq) (by kernel_rfl) rfl ?_
       refine SW.defer 5 (by repeat (first | refine NP.then ?_ | refine NP.inBlock ?_ | exact NP.body)) (by kernel_rfl) rfl (fun R => Ev.move (.mk rfl)) (by kernel_rfl) rfl ?_
       refine SW.defer 6 (by repeat (first | refine NP.then ?_ | refine NP.inBlock ?_ | exact NP.body)) (by kernel_rfl) rfl (fun R => Ev.add (.mk rfl) (.mk rfl) (by omega)) (by kernel_rfl) rfl ?_
       refine SW.slot 115 (iv ((d + 1 : Nat) : Int)) rfl rfl ?_
       refine SW.defer 7 (by repeat (first | refine NP.then ?_ | refine NP.inBlock ?_ | exact NP.body)) (by kernel_rfl) rfl (fun R => Ev.move (.mk rfl)) (by kernel_rfl) rfl ?_
       refine SW.defer 8 (by repeat (first | refine NP.then ?_ | refine NP.inBlock ?_ | exact NP.body)) (by kernel_rfl) rfl (fun R => Ev.add (.mk rfl) (.mk rfl) (by omega)) (by kernel_rfl) rfl ?_
       refine SW.slot 117 (iv ((b + 1 : Nat) : Int)) rfl rfl ?_
       refine SW.turn1 (i := 0) (by kernel_rfl) rfl ?_
       refine St.ev _ (Ev.ldb (.mk rfl) Tryd.underlying141 trivial (by rfl)) rfl ?_
       refine St.nil (St.then_normal ?_)
       refine SW.go ?_
       refine SW.turn1 (i := 9) (by kernel_rfl) rfl ?_
       refine St.callc (ih y (by rw [hy]; simp) (d + 1) (b + 1) (n + 1) (hxw y (by rw [hy]; simp)) (by omega) (by omega) (by omega)) cb67 (.mk rfl) (.cons (.mk rfl) (.cons (.mk rfl) (.cons (.mk rfl) .nil))) rfl ?_
       rintro v118 _ ⟨rfl, rfl⟩
       refine St.app2 ?_
       refine St.nil (St.then_normal ?_)
       refine SW.go ?_
       refine SW.turn1 (i := 10) (by kernel_rfl) rfl ?_
       refine St.storeA (Opd.mk rfl) (Opd.mk rfl) sz42 (by first | simp only [List.length_cons, List.length_nil] | rfl) rfl ?_
       refine St.nil (St.then_normal ?_)
       refine SW.go ?_
       refine SW.done (by kernel_rfl) ?_
       refine St.then_normal (St.rett (St.in_ret (St.then_ret ?_)))
       refine St.rets [_] [blk bn (.cells [iv ((tmW (termE y) (d + 1) (b + 1) (n + 1)).1 : Nat)].toArray 3 (0, 0)), blk bw (.cells [(.func (.func 67) #[] [Value.pointer (some ⟨bn, 0, none⟩), Value.pointer (some ⟨bw, 0, none⟩)].toArray)].toArray tw (0, 0))] Tryd.results67 ⟨⟨_, _, _, _, rfl, InB.mem, .inl ⟨⟨_, Tryd.underlying42⟩, sz42, rfl⟩⟩, trivial⟩ ?_ (fun _ hw => hw.sub)
       rw [hsw]; exact ⟨rfl, rfl⟩
    ·skip
     try simp only [jbAll] at h84
     refine St.seq (St.rg ?_)
     refine St.ev _ (Ev.eql (.mk rfl) (.mk rfl)) rfl ?_
     refine St.asg ?_
     refine St.nil (St.then_normal ?_)
     refine St.cond _ rfl (fun h119 => ?_) (fun h119 => ?_)
     ·skip
      try simp only [jbAll] at h119
      rw [h119, tm4] at hsw
      refine St.seq (St.seq (St.rg ?_))
      refine St.ev _ (Ev.fldb0 (.mk rfl) fo80_1) rfl ?_
      refine St.ev _ (Ev.ldb (.mk rfl) Tryd.underlying9 trivial (by rfl)) rfl ?_
      refine St.ev _ (Ev.strne (.mk rfl) (.mk rfl)) rfl ?_
      refine St.mv ?_
      refine St.gf _ rfl rfl (fun hg => Ev.fldb0 (.mk rfl) fo80_2) rfl ?_
      refine St.gf _ rfl rfl (fun hg => Ev.ldb (Opd.gv rfl hg) Tryd.underlying3 trivial (by rfl)) rfl ?_
      refine St.gf _ rfl rfl (fun hg => Ev.neq (Opd.gv rfl hg) (.mk rfl)) rfl ?_
      refine St.ev _ (Ev.or (.mk rfl) (fun hp => Opd.gv rfl hp)) rfl ?_
      refine St.mv ?_
      refine St.gf _ rfl rfl (fun hg => Ev.fldb0 (.mk rfl) fo80_3) rfl ?_
      refine St.gf _ rfl rfl (fun hg => Ev.ldbP 2 (Opd.gv rfl hg) Tryd.underlying77 trivial sz77 rfl rfl) rfl ?_
      refine St.gf _ rfl rfl (fun hg => Ev.call (none_spec x.type) cb70 (.cons (Opd.gv rfl hg) .nil)) rfl ?_
      refine St.gf _ rfl rfl (fun hg => Ev.not (Opd.gv rfl hg)) rfl ?_
      refine St.ev _ (Ev.or (.mk rfl) (fun hp => Opd.gv rfl hp)) rfl ?_
      refine St.mv ?_
      refine St.gf _ rfl rfl (fun hg => Ev.fldb0 (.mk rfl) fo80_4) rfl ?_
      refine St.gf _ rfl rfl (fun hg => Ev.ldb (Opd.gv rfl hg) Tryd.underlying78 trivial (by rfl)) rfl ?_
      refine St.gf _ rfl rfl (fun hg => Ev.lensl (Opd.gv rfl hg) Tryd.underlying78) rfl ?_
      refine St.gf _ rfl rfl (fun hg => Ev.neq (Opd.gv rfl hg) (.mk rfl)) rfl ?_
      refine St.ev _ (Ev.or (.mk rfl) (fun hp => Opd.gv rfl hp)) rfl ?_
      refine St.nil (St.then_normal ?_)
      refine St.cond _ rfl (fun h140 => ?_) (fun h140 => ?_)
      ·skip
       simp only [Bool.or_eq_true, Bool.or_eq_false_iff, Bool.not_eq_true', Bool.not_eq_false', decide_eq_true_eq, decide_eq_false_iff_not, beq_iff_eq, beq_eq_false_iff_ne] at h140
       rw [if_pos (show x.name ≠ [] ∨ x.index ≠ 0 ∨ noneS (simE x.type) = false ∨ x.args.length ≠ 2 by rcases h140 with ((h | h) | h) | h; exact .inl h; exact .inr (.inl h); exact .inr (.inr (.inl h)); exact .inr (.inr (.inr (by omega))))] at hsw
       refine St.seq (St.rg ?_)
       refine St.mv ?_
       refine St.ev _ (Ev.callcL (bad_spec b9 5 n) cb68 (.mk rfl) (.cons (.mk rfl) .nil) (Lent.blk Lent.nil)) rfl ?_
       refine St.storeA (Opd.mk rfl) (Opd.mk rfl) sz42 (by first | simp only [List.length_cons, List.length_nil] | rfl) rfl ?_
       refine St.nil (St.then_normal (St.rett (St.then_ret (St.in_ret (St.then_ret ?_)))))
       refine St.rets [_] [blk bn (.cells [iv ((n + 1) : Nat)].toArray 3 (0, 0)), blk bw (.cells [(.func (.func 67) #[] [Value.pointer (some ⟨bn, 0, none⟩), Value.pointer (some ⟨bw, 0, none⟩)].toArray)].toArray tw (0, 0))] Tryd.results67 ⟨⟨_, _, _, _, rfl, InB.mem, .inl ⟨⟨_, Tryd.underlying42⟩, sz42, rfl⟩⟩, trivial⟩ ?_ (fun _ hw => hw.sub)
       rw [hsw, if_pos (by decide)]
       exact ⟨rfl, rfl⟩
      ·skip
       simp only [Bool.or_eq_true, Bool.or_eq_false_iff, Bool.not_eq_true', Bool.not_eq_false', decide_eq_true_eq, decide_eq_false_iff_not, beq_iff_eq, beq_eq_false_iff_ne] at h140
       obtain ⟨⟨⟨hq1, hq2⟩, hq3⟩, hq4⟩ := h140
       obtain ⟨y, z, hy⟩ := two_args (show x.args.length = 2 by omega)
       rw [if_neg (show ¬ (x.name ≠ [] ∨ x.index ≠ 0 ∨ noneS (simE x.type) = false ∨ x.args.length ≠ 2) by rintro (h | h | h | h); exact h (by simpa using hq1); omega; rw [hq3] at h; cases h; omega), if_neg (by decide), if_neg (by decide), hy, List.map_cons, List.map_cons, List.map_nil, tmWL_two] at hsw
       refine St.dallAt termD x.args (x := y) (by rw [hy]; simp) ?_
       refine St.dallAt termD x.args (x := z) (by rw [hy]; simp) ?_
       have hle := tmW_le (termE y) (d + 1) b (n + 1) (by omega)
       have h2l : x.args.length = 2 := by rw [hy]; rfl
       refine St.skip (St.then_normal (St.seq (St.seq ?_)))
       refine St.parL [blk bn (.cells [iv ((n + 1) : Nat)].toArray 3 (0, 0)), blk bw (.cells [(.func (.func 67) #[] [Value.pointer (some ⟨bn, 0, none⟩), Value.pointer (some ⟨bw, 0, none⟩)].toArray)].toArray tw (0, 0)), dat (termD y)] mixed ?_
       refine SW.defer 1 (by repeat (first | refine NP.then ?_ | refine NP.inBlock ?_ | exact NP.body)) (by kernel_rfl) rfl (fun R => Ev.fldb0 (.mk rfl) fo80_4) (by kernel_rfl) rfl ?_
       refine SW.defer 2 (by repeat (first | refine NP.then ?_ | refine NP.inBlock ?_ | exact NP.body)) (by kernel_rfl) rfl (fun R => Ev.ldb (.mk rfl) Tryd.underlying78 trivial (by rfl)) (by kernel_rfl) rfl ?_
       refine SW.defer 3 (by repeat (first | refine NP.then ?_ | refine NP.inBlock ?_ | exact NP.body)) (by kernel_rfl) rfl (fun R => Ev.idxaddr (k := 0) (.mk rfl) (.mk rfl) Tryd.underlying78 sz80 rfl (by omega)) (by kernel_rfl) rfl ?_
       refine SW.defer 4 (by repeat (first | refine NP.then ?_ | refine NP.inBlock ?_ | exact NP.body)) (by kernel_rfl) rfl (fun R => Ev.ldA (.mk rfl) (show x.args[0]? = some y by rw [hy]; rfl) Tryd.underlying80 trivial sz80 Cel.eq) (by kernel_rfl) rfl ?_
       refine SW.defer 5 (by repeat (first | refine NP.then ?_ | refine NP.inBlock ?_ | exact NP.body)) (by kernel_rfl) rfl (fun R => Ev.move (.mk rfl)) (by kernel_rfl) rfl ?_
       refine SW.defer 6 (by repeat (first | refine NP.then ?_ | refine NP.inBlock ?_ | exact NP.body)) (by kernel_rfl) rfl (fun R => Ev.add (.mk rfl) (.mk rfl) (by omega)) (by kernel_rfl) rfl ?_
       refine SW.slot 149 (iv ((d + 1 : Nat) : Int)) rfl rfl ?_
       refine SW.defer 7 (by repeat (first | refine NP.then ?_ | refine NP.inBlock ?_ | exact NP.body)) (by kernel_rfl) rfl (fun R => Ev.move (.mk rfl)) (by kernel_rfl) rfl ?_
       refine SW.turn2 (i := 0) (j := 9) (by kernel_rfl) rfl rfl ?_ ?_
       ·skip
        refine St.ev _ (Ev.ldb (.mk rfl) Tryd.underlying141 trivial (by rfl)) rfl ?_
        refine St.nil (St.then_normal ?_)
        refine SW.go ?_
        refine SW.turn2 (i := 8) (j := 9) (by kernel_rfl) rfl rfl ?_ ?_
        ·skip
         refine St.callc (ih y (by rw [hy]; simp) (d + 1) b (n + 1) (hxw y (by rw [hy]; simp)) (by omega) (by omega) (by omega)) cb67 (.mk rfl) (.cons (.mk rfl) (.cons (.mk rfl) (.cons (.mk rfl) .nil))) rfl ?_
         rintro v151 _ ⟨rfl, rfl⟩
         refine St.app2 ?_
         refine St.nil (St.then_normal ?_)
         refine SW.go ?_
         refine SW.turn1 (i := 9) (by kernel_rfl) rfl ?_
         refine St.alloc zc42 rfl (fun b11 => ?_)
         refine St.nil (St.then_normal ?_)
         refine SW.go ?_
         refine SW.turn1 (i := 10) (by kernel_rfl) rfl ?_
         refine St.storeA (Opd.mk rfl) (Opd.mk rfl) sz42 (by first | simp only [List.length_cons, List.length_nil] | rfl) rfl ?_
         refine St.nil (St.then_normal ?_)
         refine SW.go ?_
         refine SW.done (by kernel_rfl) ?_
         refine St.then_normal (St.seq (St.rg ?_))
         refine St.ev _ (Ev.fldb0 (.mk rfl) fo42_0) rfl ?_
         refine St.ev _ (Ev.ldb (.mk rfl) Tryd.underlying3 trivial (by rfl)) rfl ?_
         refine St.ev _ (Ev.neq (.mk rfl) (.mk rfl)) rfl ?_
         refine St.nil (St.then_normal ?_)
         refine St.cond _ rfl (fun h154 => ?_) (fun h154 => ?_)
         ·skip
          try simp only [jbAll] at h154
          rw [if_pos (show (tmW (termE y) (d + 1) b (n + 1)).2.1 ≠ 0 by simpa using h154)] at hsw
          refine St.seq (St.rg ?_)
          refine St.ev _ (Ev.ldbA (.mk rfl) Tryd.underlying42 trivial (by exact sz42)) rfl ?_
          refine St.storeA (Opd.mk rfl) (Opd.mk rfl) sz42 (by first | simp only [List.length_cons, List.length_nil] | rfl) rfl ?_
          refine St.nil (St.then_normal (St.rett (St.then_ret (St.in_ret (St.then_ret ?_)))))
          refine St.rets [_] [blk bn (.cells [iv ((tmW (termE y) (d + 1) b (n + 1)).1 : Nat)].toArray 3 (0, 0)), blk bw (.cells [(.func (.func 67) #[] [Value.pointer (some ⟨bn, 0, none⟩), Value.pointer (some ⟨bw, 0, none⟩)].toArray)].toArray tw (0, 0))] Tryd.results67 ⟨⟨_, _, _, _, rfl, InB.mem, .inl ⟨⟨_, Tryd.underlying42⟩, sz42, rfl⟩⟩, trivial⟩ ?_ (fun _ hw => hw.sub)
          rw [hsw]; exact ⟨rfl, rfl⟩
         ·skip
          try simp only [jbAll] at h154
          have hc0 : (tmW (termE y) (d + 1) b (n + 1)).2.1 = 0 := by simpa using h154
          have hok := (tmW_ok (termE y) (d + 1) b (n + 1) hc0).1
          rw [if_neg (by rw [hc0]; decide)] at hsw
          refine St.skip (St.then_normal (St.seq ?_))
          refine St.parL [blk bn (.cells [iv ((tmW (termE y) (d + 1) b (n + 1)).1 : Nat)].toArray 3 (0, 0)), blk bw (.cells [(.func (.func 67) #[] [Value.pointer (some ⟨bn, 0, none⟩), Value.pointer (some ⟨bw, 0, none⟩)].toArray)].toArray tw (0, 0)), dat (termD z), blk b8 (.cells [iv 0, iv 0].toArray 42 (0, 0))] mixed ?_
          refine SW.defer 1 (by repeat (first | refine NP.then ?_ | refine NP.inBlock ?_ | exact NP.body)) (by kernel_rfl) rfl (fun R => Ev.fldb0 (.mk rfl) fo80_4) (by kernel_rfl) rfl ?_
          refine SW.defer 2 (by repeat (first | refine NP.then ?_ | refine NP.inBlock ?_ | exact NP.body)) (by kernel_rfl) rfl (fun R => Ev.ldb (.mk rfl) Tryd.underlying78 trivial (by rfl)) (by kernel_rfl) rfl ?_
          refine SW.defer 3 (by repeat (first | refine NP.then ?_ | refine NP.inBlock ?_ | exact NP.body)) (by kernel_rfl) rfl (fun R => Ev.idxaddr (k := 1) (.mk rfl) (.mk rfl) Tryd.underlying78 sz80 rfl (by omega)) (by kernel_rfl) rfl ?_
          refine SW.defer 4 (by repeat (first | refine NP.then ?_ | refine NP.inBlock ?_ | exact NP.body)) (by kernel_rfl) rfl (fun R => Ev.ldA (.mk rfl) (show x.args[1]? = some z by rw [hy]; rfl) Tryd.underlying80 trivial sz80 Cel.eq) (by kernel_rfl) rfl ?_
          refine SW.defer 5 (by repeat (first | refine NP.then ?_ | refine NP.inBlock ?_ | exact NP.body)) (by kernel_rfl) rfl (fun R => Ev.move (.mk rfl)) (by kernel_rfl) rfl ?_
          refine SW.defer 6 (by repeat (first | refine NP.then ?_ | refine NP.inBlock ?_ | exact NP.body)) (by kernel_rfl) rfl (fun R => Ev.add (.mk rfl) (.mk rfl) (by omega)) (by kernel_rfl) rfl ?_
          refine SW.slot 162 (iv ((d + 1 : Nat) : Int)) rfl rfl ?_
          refine SW.defer 7 (by repeat (first | refine NP.then ?_ | refine NP.inBlock ?_ | exact NP.body)) (by kernel_rfl) rfl (fun R => Ev.move (.mk rfl)) (by kernel_rfl) rfl ?_
          refine SW.turn1 (i := 0) (by kernel_rfl) rfl ?_
          refine St.ev _ (Ev.ldb (.mk rfl) Tryd.underlying141 trivial (by rfl)) rfl ?_
          refine St.nil (St.then_normal ?_)
          refine SW.go ?_
          refine SW.turn1 (i := 8) (by kernel_rfl) rfl ?_
          refine St.callc (ih z (by rw [hy]; simp) (d + 1) b (tmW (termE y) (d + 1) b (n + 1)).1 (hxw z (by rw [hy]; simp)) (by omega) (by omega) (by omega)) cb67 (.mk rfl) (.cons (.mk rfl) (.cons (.mk rfl) (.cons (.mk rfl) .nil))) rfl ?_
          rintro v164 _ ⟨rfl, rfl⟩
          refine St.app2 ?_
          refine St.nil (St.then_normal ?_)
          refine SW.go ?_
          refine SW.turn1 (i := 9) (by kernel_rfl) rfl ?_
          refine St.storeA (Opd.mk rfl) (Opd.mk rfl) sz42 (by first | simp only [List.length_cons, List.length_nil] | rfl) rfl ?_
          refine St.nil (St.then_normal ?_)
          refine SW.go ?_
          refine SW.done (by kernel_rfl) ?_
          refine St.then_normal (St.rett (St.in_ret (St.then_ret ?_)))
          refine St.rets [_] [blk bn (.cells [iv ((tmW (termE z) (d + 1) b (tmW (termE y) (d + 1) b (n + 1)).1).1 : Nat)].toArray 3 (0, 0)), blk bw (.cells [(.func (.func 67) #[] [Value.pointer (some ⟨bn, 0, none⟩), Value.pointer (some ⟨bw, 0, none⟩)].toArray)].toArray tw (0, 0))] Tryd.results67 ⟨⟨_, _, _, _, rfl, InB.mem, .inl ⟨⟨_, Tryd.underlying42⟩, sz42, rfl⟩⟩, trivial⟩ ?_ (fun _ hw => hw.sub)
          rw [hsw]; exact ⟨rfl, rfl⟩
        ·skip
         refine St.alloc zc42 rfl (fun b11 => ?_)
         refine St.nil (St.then_normal ?_)
         refine SW.go ?_
         refine SW.turn1 (i := 8) (by kernel_rfl) rfl ?_
         refine St.callc (ih y (by rw [hy]; simp) (d + 1) b (n + 1) (hxw y (by rw [hy]; simp)) (by omega) (by omega) (by omega)) cb67 (.mk rfl) (.cons (.mk rfl) (.cons (.mk rfl) (.cons (.mk rfl) .nil))) rfl ?_
         rintro v151 _ ⟨rfl, rfl⟩
         refine St.app2 ?_
         refine St.nil (St.then_normal ?_)
         refine SW.go ?_
         refine SW.turn1 (i := 10) (by kernel_rfl) rfl ?_
         refine St.storeA (Opd.mk rfl) (Opd.mk rfl) sz42 (by first | simp only [List.length_cons, List.length_nil] | rfl) rfl ?_
         refine St.nil (St.then_normal ?_)
         refine SW.go ?_
         refine SW.done (by kernel_rfl) ?_
         refine St.then_normal (St.seq (St.rg ?_))
         refine St.ev _ (Ev.fldb0 (.mk rfl) fo42_0) rfl ?_
         refine St.ev _ (Ev.ldb (.mk rfl) Tryd.underlying3 trivial (by rfl)) rfl ?_
         refine St.ev _ (Ev.neq (.mk rfl) (.mk rfl)) rfl ?_
         refine St.nil (St.then_normal ?_)
         refine St.cond _ rfl (fun h154 => ?_) (fun h154 => ?_)
         ·skip
          try simp only [jbAll] at h154
          rw [if_pos (show (tmW (termE y) (d + 1) b (n + 1)).2.1 ≠ 0 by simpa using h154)] at hsw
          refine St.seq (St.rg ?_)
          refine St.ev _ (Ev.ldbA (.mk rfl) Tryd.underlying42 trivial (by exact sz42)) rfl ?_
          refine St.storeA (Opd.mk rfl) (Opd.mk rfl) sz42 (by first | simp only [List.length_cons, List.length_nil] | rfl) rfl ?_
          refine St.nil (St.then_normal (St.rett (St.then_ret (St.in_ret (St.then_ret ?_)))))
          refine St.rets [_] [blk bn (.cells [iv ((tmW (termE y) (d + 1) b (n + 1)).1 : Nat)].toArray 3 (0, 0)), blk bw (.cells [(.func (.func 67) #[] [Value.pointer (some ⟨bn, 0, none⟩), Value.pointer (some ⟨bw, 0, none⟩)].toArray)].toArray tw (0, 0))] Tryd.results67 ⟨⟨_, _, _, _, rfl, InB.mem, .inl ⟨⟨_, Tryd.underlying42⟩, sz42, rfl⟩⟩, trivial⟩ ?_ (fun _ hw => hw.sub)
          rw [hsw]; exact ⟨rfl, rfl⟩
         ·skip
          try simp only [jbAll] at h154
          have hc0 : (tmW (termE y) (d + 1) b (n + 1)).2.1 = 0 := by simpa using h154
          have hok := (tmW_ok (termE y) (d + 1) b (n + 1) hc0).1
          rw [if_neg (by rw [hc0]; decide)] at hsw
          refine St.skip (St.then_normal (St.seq ?_))
          refine St.parL [blk bn (.cells [iv ((tmW (termE y) (d + 1) b (n + 1)).1 : Nat)].toArray 3 (0, 0)), blk bw (.cells [(.func (.func 67) #[] [Value.pointer (some ⟨bn, 0, none⟩), Value.pointer (some ⟨bw, 0, none⟩)].toArray)].toArray tw (0, 0)), dat (termD z), blk b8 (.cells [iv 0, iv 0].toArray 42 (0, 0))] mixed ?_
          refine SW.defer 1 (by repeat (first | refine NP.then ?_ | refine NP.inBlock ?_ | exact NP.body)) (by kernel_rfl) rfl (fun R => Ev.fldb0 (.mk rfl) fo80_4) (by kernel_rfl) rfl ?_
          refine SW.defer 2 (by repeat (first | refine NP.then ?_ | refine NP.inBlock ?_ | exact NP.body)) (by kernel_rfl) rfl (fun R => Ev.ldb (.mk rfl) Tryd.underlying78 trivial (by rfl)) (by kernel_rfl) rfl ?_
          refine SW.defer 3 (by repeat (first | refine NP.then ?_ | refine NP.inBlock ?_ | exact NP.body)) (by kernel_rfl) rfl (fun R => Ev.idxaddr (k := 1) (.mk rfl) (.mk rfl) Tryd.underlying78 sz80 rfl (by omega)) (by kernel_rfl) rfl ?_
          refine SW.defer 4 (by repeat (first | refine NP.then ?_ | refine NP.inBlock ?_ | exact NP.body)) (by kernel_rfl) rfl (fun R => Ev.ldA (.mk rfl) (show x.args[1]? = some z by rw [hy]; rfl) Tryd.underlying80 trivial sz80 Cel.eq) (by kernel_rfl) rfl ?_
          refine SW.defer 5 (by repeat (first | refine NP.then ?_ | refine NP.inBlock ?_ | exact NP.body)) (by kernel_rfl) rfl (fun R => Ev.move (.mk rfl)) (by kernel_rfl) rfl ?_
          refine SW.defer 6 (by repeat (first | refine NP.then ?_ | refine NP.inBlock ?_ | exact NP.body)) (by kernel_rfl) rfl (fun R => Ev.add (.mk rfl) (.mk rfl) (by omega)) (by kernel_rfl) rfl ?_
          refine SW.slot 162 (iv ((d + 1 : Nat) : Int)) rfl rfl ?_
          refine SW.defer 7 (by repeat (first | refine NP.then ?_ | refine NP.inBlock ?_ | exact NP.body)) (by kernel_rfl) rfl (fun R => Ev.move (.mk rfl)) (by kernel_rfl) rfl ?_
          refine SW.turn1 (i := 0) (by kernel_rfl) rfl ?_
          refine St.ev _ (Ev.ldb (.mk rfl) Tryd.underlying141 trivial (by rfl)) rfl ?_
          refine St.nil (St.then_normal ?_)
          refine SW.go ?_
          refine SW.turn1 (i := 8) (by kernel_rfl) rfl ?_
          refine St.callc (ih z (by rw [hy]; simp) (d + 1) b (tmW (termE y) (d + 1) b (n + 1)).1 (hxw z (by rw [hy]; simp)) (by omega) (by omega) (by omega)) cb67 (.mk rfl) (.cons (.mk rfl) (.cons (.mk rfl) (.cons (.mk rfl) .nil))) rfl ?_
          rintro v164 _ ⟨rfl, rfl⟩
          refine St.app2 ?_
          refine St.nil (St.then_normal ?_)
          refine SW.go ?_
          refine SW.turn1 (i := 9) (by kernel_rfl) rfl ?_
          refine St.storeA (Opd.mk rfl) (Opd.mk rfl) sz42 (by first | simp only [List.length_cons, List.length_nil] | rfl) rfl ?_
          refine St.nil (St.then_normal ?_)
          refine SW.go ?_
          refine SW.done (by kernel_rfl) ?_
          refine St.then_normal (St.rett (St.in_ret (St.then_ret ?_)))
          refine St.rets [_] [blk bn (.cells [iv ((tmW (termE z) (d + 1) b (tmW (termE y) (d + 1) b (n + 1)).1).1 : Nat)].toArray 3 (0, 0)), blk bw (.cells [(.func (.func 67) #[] [Value.pointer (some ⟨bn, 0, none⟩), Value.pointer (some ⟨bw, 0, none⟩)].toArray)].toArray tw (0, 0))] Tryd.results67 ⟨⟨_, _, _, _, rfl, InB.mem, .inl ⟨⟨_, Tryd.underlying42⟩, sz42, rfl⟩⟩, trivial⟩ ?_ (fun _ hw => hw.sub)
          rw [hsw]; exact ⟨rfl, rfl⟩
       ·skip
        refine St.alloc zc42 rfl (fun b11 => ?_)
        refine St.nil (St.then_normal ?_)
        refine SW.go ?_
        refine SW.turn1 (i := 0) (by kernel_rfl) rfl ?_
        refine St.ev _ (Ev.ldb (.mk rfl) Tryd.underlying141 trivial (by rfl)) rfl ?_
        refine St.nil (St.then_normal ?_)
        refine SW.go ?_
        refine SW.turn1 (i := 8) (by kernel_rfl) rfl ?_
        refine St.callc (ih y (by rw [hy]; simp) (d + 1) b (n + 1) (hxw y (by rw [hy]; simp)) (by omega) (by omega) (by omega)) cb67 (.mk rfl) (.cons (.mk rfl) (.cons (.mk rfl) (.cons (.mk rfl) .nil))) rfl ?_
        rintro v151 _ ⟨rfl, rfl⟩
        refine St.app2 ?_
        refine St.nil (St.then_normal ?_)
        refine SW.go ?_
        refine SW.turn1 (i := 10) (by kernel_rfl) rfl ?_
        refine St.storeA (Opd.mk rfl) (Opd.mk rfl) sz42 (by first | simp only [List.length_cons, List.length_nil] | rfl) rfl ?_
        refine St.nil (St.then_normal ?_)
        refine SW.go ?_
        refine SW.done (by kernel_rfl) ?_
        refine St.then_normal (St.seq (St.rg ?_))
        refine St.ev _ (Ev.fldb0 (.mk rfl) fo42_0) rfl ?_
        refine St.ev _ (Ev.ldb (.mk rfl) Tryd.underlying3 trivial (by rfl)) rfl ?_
        refine St.ev _ (Ev.neq (.mk rfl) (.mk rfl)) rfl ?_
        refine St.nil (St.then_normal ?_)
        refine St.cond _ rfl (fun h154 => ?_) (fun h154 => ?_)
        ·skip
         try simp only [jbAll] at h154
         rw [if_pos (show (tmW (termE y) (d + 1) b (n + 1)).2.1 ≠ 0 by simpa using h154)] at hsw
         refine St.seq (St.rg ?_)
         refine St.ev _ (Ev.ldbA (.mk rfl) Tryd.underlying42 trivial (by exact sz42)) rfl ?_
         refine St.storeA (Opd.mk rfl) (Opd.mk rfl) sz42 (by first | simp only [List.length_cons, List.length_nil] | rfl) rfl ?_
         refine St.nil (St.then_normal (St.rett (St.then_ret (St.in_ret (St.then_ret ?_)))))
         refine St.rets [_] [blk bn (.cells [iv ((tmW (termE y) (d + 1) b (n + 1)).1 : Nat)].toArray 3 (0, 0)), blk bw (.cells [(.func (.func 67) #[] [Value.pointer (some ⟨bn, 0, none⟩), Value.pointer (some ⟨bw, 0, none⟩)].toArray)].toArray tw (0, 0))] Tryd.results67 ⟨⟨_, _, _, _, rfl, InB.mem, .inl ⟨⟨_, Tryd.underlying42⟩, sz42, rfl⟩⟩, trivial⟩ ?_ (fun _ hw => hw.sub)
         rw [hsw]; exact ⟨rfl, rfl⟩
        ·skip
         try simp only [jbAll] at h154
         have hc0 : (tmW (termE y) (d + 1) b (n + 1)).2.1 = 0 := by simpa using h154
         have hok := (tmW_ok (termE y) (d + 1) b (n + 1) hc0).1
         rw [if_neg (by rw [hc0]; decide)] at hsw
         refine St.skip (St.then_normal (St.seq ?_))
         refine St.parL [blk bn (.cells [iv ((tmW (termE y) (d + 1) b (n + 1)).1 : Nat)].toArray 3 (0, 0)), blk bw (.cells [(.func (.func 67) #[] [Value.pointer (some ⟨bn, 0, none⟩), Value.pointer (some ⟨bw, 0, none⟩)].toArray)].toArray tw (0, 0)), dat (termD z), blk b8 (.cells [iv 0, iv 0].toArray 42 (0, 0))] mixed ?_
         refine SW.defer 1 (by repeat (first | refine NP.then ?_ | refine NP.inBlock ?_ | exact NP.body)) (by kernel_rfl) rfl (fun R => Ev.fldb0 (.mk rfl) fo80_4) (by kernel_rfl) rfl ?_
         refine SW.defer 2 (by repeat (first | refine NP.then ?_ | refine NP.inBlock ?_ | exact NP.body)) (by kernel_rfl) rfl (fun R => Ev.ldb (.mk rfl) Tryd.underlying78 trivial (by rfl)) (by kernel_rfl) rfl ?_
         refine SW.defer 3 (by repeat (first | refine NP.then ?_ | refine NP.inBlock ?_ | exact NP.body)) (by kernel_rfl) rfl (fun R => Ev.idxaddr (k := 1) (.mk rfl) (.mk rfl) Tryd.underlying78 sz80 rfl (by omega)) (by kernel_rfl) rfl ?_
         refine SW.defer 4 (by repeat (first | refine NP.then ?_ | refine NP.inBlock ?_ | exact NP.body)) (by kernel_rfl) rfl (fun R => Ev.ldA (.mk rfl) (show x.args[1]? = some z by rw [hy]; rfl) Tryd.underlying80 trivial sz80 Cel.eq) (by kernel_rfl) rfl ?_
         refine SW.defer 5 (by repeat (first | refine NP.then ?_ | refine NP.inBlock ?_ | exact NP.body)) (by kernel_rfl) rfl (fun R => Ev.move (.mk rfl)) (by kernel_rfl) rfl ?_
         refine SW.defer 6 (by repeat (first | refine NP.then ?_ | refine NP.inBlock ?_ | exact NP.body)) (by kernel_rfl) rfl (fun R => Ev.add (.mk rfl) (.mk rfl) (by omega)) (by kernel_rfl) rfl ?_
         refine SW.slot 162 (iv ((d + 1 : Nat) : Int)) rfl rfl ?_
         refine SW.defer 7 (by repeat (first | refine NP.then ?_ | refine NP.inBlock ?_ | exact NP.body)) (by kernel_rfl) rfl (fun R => Ev.move (.mk rfl)) (by kernel_rfl) rfl ?_
         refine SW.turn1 (i := 0) (by kernel_rfl) rfl ?_
         refine St.ev _ (Ev.ldb (.mk rfl) Tryd.underlying141 trivial (by rfl)) rfl ?_
         refine St.nil (St.then_normal ?_)
         refine SW.go ?_
         refine SW.turn1 (i := 8) (by kernel_rfl) rfl ?_
         refine St.callc (ih z (by rw [hy]; simp) (d + 1) b (tmW (termE y) (d + 1) b (n + 1)).1 (hxw z (by rw [hy]; simp)) (by omega) (by omega) (by omega)) cb67 (.mk rfl) (.cons (.mk rfl) (.cons (.mk rfl) (.cons (.mk rfl) .nil))) rfl ?_
         rintro v164 _ ⟨rfl, rfl⟩
         refine St.app2 ?_
         refine St.nil (St.then_normal ?_)
         refine SW.go ?_
         refine SW.turn1 (i := 9) (by kernel_rfl) rfl ?_
         refine St.storeA (Opd.mk rfl) (Opd.mk rfl) sz42 (by first | simp only [List.length_cons, List.length_nil] | rfl) rfl ?_
         refine St.nil (St.then_normal ?_)
         refine SW.go ?_
         refine SW.done (by kernel_rfl) ?_
         refine St.then_normal (St.rett (St.in_ret (St.then_ret ?_)))
         refine St.rets [_] [blk bn (.cells [iv ((tmW (termE z) (d + 1) b (tmW (termE y) (d + 1) b (n + 1)).1).1 : Nat)].toArray 3 (0, 0)), blk bw (.cells [(.func (.func 67) #[] [Value.pointer (some ⟨bn, 0, none⟩), Value.pointer (some ⟨bw, 0, none⟩)].toArray)].toArray tw (0, 0))] Tryd.results67 ⟨⟨_, _, _, _, rfl, InB.mem, .inl ⟨⟨_, Tryd.underlying42⟩, sz42, rfl⟩⟩, trivial⟩ ?_ (fun _ hw => hw.sub)
         rw [hsw]; exact ⟨rfl, rfl⟩
     ·skip
      try simp only [jbAll] at h119
      rw [tm5 h28 h54 h84 h119] at hsw
      refine St.seq (St.rg ?_)
      refine St.mv ?_
      refine St.ev _ (Ev.callcL (bad_spec b9 4 n) cb68 (.mk rfl) (.cons (.mk rfl) .nil) (Lent.blk Lent.nil)) rfl ?_
      refine St.storeA (Opd.mk rfl) (Opd.mk rfl) sz42 (by first | simp only [List.length_cons, List.length_nil] | rfl) rfl ?_
      refine St.nil (St.then_normal (St.rett (St.in_ret (St.then_ret ?_))))
      refine St.rets [_] [blk bn (.cells [iv ((n + 1) : Nat)].toArray 3 (0, 0)), blk bw (.cells [(.func (.func 67) #[] [Value.pointer (some ⟨bn, 0, none⟩), Value.pointer (some ⟨bw, 0, none⟩)].toArray)].toArray tw (0, 0))] Tryd.results67 ⟨⟨_, _, _, _, rfl, InB.mem, .inl ⟨⟨_, Tryd.underlying42⟩, sz42, rfl⟩⟩, trivial⟩ ?_ (fun _ hw => hw.sub)
      rw [hsw, if_pos (by decide)]
      exact ⟨rfl, rfl⟩
end Go.Proofs.YtolmidffiegkaaaDoor

/-
  (YtolmidffiegkaaaDoorJ19)
  A part of a row of the call's own: its length, its places; its elements set to zero.
  Conditions: none; everything holds of any program.
-/
namespace Go.J
open Go
section
variable {P : Program} {n : Nat} {F : Fr} {A : World → Prop} {c : Ctx} {H R : List Ent} {ty : TypeId} {x y z : Operand} {v : Value} {Q : Exit → Act → World → Prop} {ops : Array Oper} {rest : List Oper}
 {d : Nat} {pos : String} {after : Array Edge} {t e : TypeId} {size m : Nat} {cs : List Value}
end
end Go.J

/-
  (YtolmidffiegkaaaDoorJ30)
  A slice of data whose capacity is cut to its length; an append to it makes a row of the call's own.
  Conditions: none; everything holds of any program.
-/
namespace Go.J
open Go
section
variable {P : Program} {n : Nat} {F : Fr} {A : World → Prop} {c : Ctx} {H R : List Ent} {ty : TypeId} {x y z : Operand} {v : Value} {Q : Exit → Act → World → Prop} {ops : Array Oper} {rest : List Oper}
 {d : Nat} {pos : String} {after : Array Edge} {t e : TypeId} {size m : Nat} {cs : List Value}
def clipv : Value → Value
 | .slice a m _ => .slice a m m
 | v => v
theorem Ev.clip {α : Type} {Rr : Rp α} {xs : List α} {i j : Int} {ki kj : IntKind} {hi mx : Operand} [hd : InS v H α Rr xs] (hx : Opd F x v) (hh : Opd F hi (.int ki i)) (hm : Opd F mx (.int kj j)) (ht : P.underlying t = some (.slice e)) (hs : (P.info? e).map (·.size) = some Rr.size)
  (h1 : i = xs.length) (h2 : j = xs.length) : Ev P n F (Mm c H) (.slice t x none (some hi) (some mx)) ty (clipv v) := .of_run fun a w ha hw => by
 obtain ⟨ρ, hmm⟩ := hw.out
 obtain ⟨inf, hinf, hsz⟩ := Option.map_eq_some_iff.1 hs
 obtain ⟨ad, cap, rfl, hc, _⟩ := hmm.sl hd
 subst h1 h2
 have b1 : (0 : Int) ≤ (xs.length : Int) ∧ (xs.length : Int) ≤ (cap : Int) := by omega
 have b2 : (0 : Int) ≤ (xs.length : Int) ∧ (xs.length : Int) ≤ (xs.length : Int) := by omega
 simp only [execOp, hx.eval ha, hh.eval ha, hm.eval ha, Option.map_some, Option.map_none, Instr.sliceAt, Instr.slice, Instr.sliceBounds, Instr.sliceBound, asIntOf, Sem.run_bind, run_underlying ht, Result.andThen_ok, Sem.run_pure, b1, b2, and_self, if_true, Int.toNat_natCast, sizeOf, typeInfo, run_program, hinf, hsz, clipv, Nat.sub_zero, Nat.zero_mul]
 cases ad with
 | none => simp
 | some a => simp [Addr.add_zero']
theorem St.appendClip {α : Type} {Rr : Rp α} {xs : List α} {v2 : Value} {m2 : Nat} {news : List Value} {zv : Value} {by_ : Nat} [t2 : TakeR v2 H e Rr.size m2 news R] [t1 : InS v H α Rr xs]
  (hx : Opd F x (clipv v)) (hy : Opd F y v2) (ht : P.underlying t = some (.slice e)) (hs : (P.info? e).map (·.size) = some Rr.size) (hz : (P.info? e).bind (·.zero) = some zv) (hb : (P.info? e).map (·.bytes) = some by_)
  (hone : ∀ u ∈ news, u.oneCell' = true) (hlen : xs.length + m2 ≤ 9223372036854775807) (hroom : (xs.length + m2) * by_ ≤ 140737488355328) (hzs : zv.cells.size = Rr.size) (hpos : Nat.ble 1 Rr.size = true) (hne : Nat.ble 1 m2 = true) (hd : Nat.ble (d + 1) n = true)
  (h : ∀ v', v'.oneCell' = true → St n ((d, v') :: F) (Mm c (row v' e Rr.size (xs.length + m2) (rows Rr xs ++ news) :: R)) (wpList P ops Q rest)) :
  St n F (Mm c H) (wpList P ops Q ({ dst := some d, op := .call { callee := .builtin .append, args := #[x, y], argTypes := #[t, t] }, type := ty, pos := pos, after := after, guard := none } :: rest)) := by
 refine St.do_ (K := fun v' H' => v'.oneCell' = true ∧ H' = row v' e Rr.size (xs.length + m2) (rows Rr xs ++ news) :: R) ?_ hd ?_
 ·intro a w ρ ha hm
  have hm1 := hm.perm t2.perm
  have hr2 := row_ok.1 (hm1.ents _ (List.mem_cons_self ..))
  obtain ⟨ad, cap, rfl, _, _, _, h5⟩ := hm.sl t1
  have hne' := Nat.le_of_ble_eq_true hne
  obtain ⟨i, hi, hsz⟩ := Option.map_eq_some_iff.1 hs
  obtain ⟨q1, q2, q3⟩ := zeros_of hs hz hb hi
  rcases hr2.2 with ⟨_, rfl⟩ | ⟨g2, cap2, cur2, rfl, _, hg2, hc1, hc2, hcs2, htk2⟩
  ·omega
  ·have hnews : ∀ j u, news[j]? = some u → w.cell? ((⟨g2, 0, none⟩ : Addr).add j) = some u := fun j u hj => by
    rw [Addr.add_lit, Nat.zero_add, cell?_of_blk hg2]
    rw [← htk2, List.getElem?_take] at hj
    split at hj
    ·simpa using hj
    ·simp at hj
   have hsmall : xs.length + m2 ≤ 9223372036854775807 := hlen
   have hbytes : (xs.length + m2) * i.bytes ≤ 140737488355328 := by rw [q3]; exact hroom
   have hlx : (rows Rr xs).length = xs.length * i.size := by rw [rows_length, q1]
   have hln : news.length = m2 * i.size := by rw [hr2.1, q1]
   have hall : ∃ (cap' : Nat), (Builtin.append_ #[t, t] ty #[clipv (.slice ad xs.length cap), .slice (some ⟨g2, 0, none⟩) m2 cap2]).run P w = .ok (.slice (some ⟨w.heap.size, 0, none⟩) (xs.length + m2) cap') (w.drew.alloc (.cells ((rows Rr xs).toArray ++ news.toArray ++ Builtin.zeroCells zv.cells (cap' - (xs.length + m2))) e)) ∧ xs.length + m2 ≤ cap' ∧ cap' ≤ maxLen := by
    cases ad with
    | none =>
     rcases h5 with h5 | ⟨b, off, C, e', fr, h5, _⟩
     ·subst h5
      refine ⟨grownCap w (([] : List α).length + m2) 0 e, ?_, grownCap_ge .., grownCap_le_maxLen _ _ _ _ (by unfold maxLen; omega)⟩
      have hr := run_append_nil (P := P) w t ty e i zv ht hi q2 ⟨g2, 0, none⟩ m2 cap2 news hln hnews (by omega) (by simp at hsmall; omega) (by simp at hbytes; omega)
      simpa [clipv, rows] using hr
     ·cases h5
    | some ad =>
     refine ⟨grownCap w (xs.length + m2) xs.length e, ?_, grownCap_ge .., grownCap_le_maxLen _ _ _ _ (by unfold maxLen; omega)⟩
     refine run_append_grow (P := P) w t ty e i zv ht hi q2 ad xs.length xs.length (rows Rr xs) hlx (fun j u hj => ?_) ⟨g2, 0, none⟩ m2 cap2 news hln hnews (by omega) (by omega) (growslice_fits (by omega) hbytes)
     rcases h5 with h5 | ⟨b, off, C, e', fr, h5, h6, h7⟩
     ·subst h5; simp [rows] at hj
     ·cases h5
      rw [Addr.add_lit, cell?_of_blk (hm.fits _ _ h6)]
      exact h7 j u hj
   obtain ⟨cap', hrun, hc3, hc4⟩ := hall
   refine ⟨.value (.slice (some ⟨w.heap.size, 0, none⟩) (xs.length + m2) cap'), w.drew.alloc (.cells ((rows Rr xs).toArray ++ news.toArray ++ Builtin.zeroCells zv.cells (cap' - (xs.length + m2))) e), ρ, _, ?_, ⟨_, .inl rfl, rfl, rfl⟩, ?_⟩
   ·simp [execOp, resolve, invoke, builtin, hx.eval ha, hy.eval ha, hrun]
   ·have hlen2 : (rows Rr xs ++ news).length = (xs.length + m2) * Rr.size := by rw [List.length_append, hr2.1, rows_length, Nat.add_mul]
    refine hm1.drop.new1 rfl ⟨rfl, Nat.le_succ _⟩ rfl (by simp) (fun k hk => heap_alloc_old w.drew _ hk) (row_ok.2 ⟨hlen2, .inr ⟨w.heap.size, cap', _, rfl, Nat.zero_le _, heap_alloc_new w.drew _, hc3, hc4, ?_, ?_⟩⟩) ?_
    ·simp only [Array.size_append, List.size_toArray, size_zeroCells, hzs, rows_length, hr2.1, ← Nat.add_mul]
     congr 1
     omega
    ·simp only [Array.toList_append, List.append_assoc]
     rw [← List.append_assoc, ← hlen2]
     exact List.take_left
    ·intro b hb; rw [row_key] at hb; simp [Value.ownBlock] at hb; omega
 ·rintro _ _ ⟨h1, rfl⟩
  exact h _ h1
end
end Go.J

/-
  (YtolmidffiegkaaaDoorQ9)
  The walk of the types of terms.
  Conditions: none beyond the sizes.
-/
set_option maxRecDepth 20000
set_option linter.unusedSimpArgs false
set_option linter.unusedVariables false
namespace Go.Proofs.YtolmidffiegkaaaDoor
open Go Go.J
theorem termE_type (x : TermD) : (termE x).type = simE x.type := by cases x; rfl
theorem termE_index (x : TermD) : (termE x).index = x.index := by cases x; rfl
theorem typ4_none {a b : Option Sm0} {s1 s2 : Sm0} {b1 b2 : Bool} (h1 : b1 = true → a = some s1) (h1f : b1 = false → a = none) (h2 : b2 = true → b = some s2) (h2f : b2 = false → b = none)
  (hn : b1 = true → b2 = true → ∀ p q, s1.args = [p, q] → sameS p s2 = true → False) : appT a b = none := by
 cases b1 with
 | false => rw [h1f rfl]; rfl
 | true =>
  cases b2 with
  | false =>
   rw [h2f rfl]; unfold appT
   split
   ·contradiction
   ·rfl
  | true =>
   rw [h1 rfl, h2 rfl]
   refine appT_none _ _ fun s l x e1 e2 e3 => ?_
   cases e1; cases e3
   rintro ⟨p, q, rfl, hs⟩
   exact hn rfl rfl p q e2 hs
theorem headD_two {l : List SimD} {p q : SimD} (h : l = [p, q]) : l[0]? = some (l.headD simN) := by rw [h]; rfl
section
variable {n : Nat} {F : Fr} {c : Ctx} {H : List Ent} {T : Act → World → Prop}
theorem St.headSim (l : List SimD) [hd : InD (dall simD l) H] (k : St n F (Mm c (dat (simD (l.headD simN)) :: H)) T) : St n F (Mm c H) T :=
 St.mkD (simD (l.headD simN)) [dall simD l] (fun ρ h => by
  cases l with
  | nil => exact .mk (x := simN) (sl_nil simR ρ) (fun y hy => by cases hy)
  | cons p l => exact h _ (List.mem_cons_self ..) p (List.mem_cons_self ..)) k
end
set_option maxHeartbeats 2000000 in
theorem typed_spec : ∀ (x : TermD) (ctx : List SimD) (v : Value) (d : Nat), TmG (termE x) d ctx.length → termR.wf x → ctx.length ≤ d → FnH Tryd.prog 71 #[termV x, v] ([termD x, sl simR v ctx, dall simD ctx].map dat) (fun r H' => ∃ (s : SimD) (b : Bool), r = .tuple #[simV s, .bool b] ∧ simR.wf s ∧ (b = true → typT (termE x) (ctx.map simE) = some (simE s)) ∧ (b = false → typT (termE x) (ctx.map simE) = none) ∧ H' = [dat (simD s)]) := by
 intro x
 induction x using TermD.ind
 rename_i x ih
 intro ctx v d hg hw hcl
 refine FnH.body (args := [termV x, v]) 101 Tryd.func71 rfl Tryd.ntmps71 rfl (fun c => ?_)
 refine St.cast (H' := [dat (termD x), dat (sl simR v ctx), dat (dall simD ctx)]) rfl ?_
 refine St.seq ?_
 obtain ⟨hd40, hh, hk⟩ := hg.inv
 rw [tmHereE] at hh
 have hinv := tmOne_inv hh
 rw [termE_args, termE_kind] at hk
 have hsw := typT_eq (termE x) (ctx.map simE)
 rw [termE_kind, termE_args, termE_type, termE_index, List.length_map] at hsw
 refine St.openTerm x ?_
 refine St.wf x.av.1 (fun hxw hxl => ?_)
 refine St.wf v (fun hcw hcx => ?_)
 refine St.rg ?_
 refine St.boxA (.mk rfl) rfl (fun b2 => ?_)
 refine St.alloc zc77 rfl (fun b4 => ?_)
 refine St.asg ?_
 refine St.nil (St.then_normal (St.seq (St.seq (St.rg ?_))))
 refine St.ev _ (Ev.fldb0 (.mk rfl) fo80_0) rfl ?_
 refine St.ev _ (Ev.ldb (.mk rfl) Tryd.underlying3 trivial (by rfl)) rfl ?_
 refine St.nil (St.then_normal (St.block (St.seq (St.rg ?_))))
 refine St.ev _ (Ev.eql (.mk rfl) (.mk rfl)) rfl ?_
 refine St.asg ?_
 refine St.nil (St.then_normal ?_)
 refine St.cond _ rfl (fun h15 => ?_) (fun h15 => ?_)
 ·skip
  try simp only [jbAll] at h15
  rw [if_pos h15] at hsw
  refine St.seq (St.rg ?_)
  refine St.ev _ (Ev.fldb0 (.mk rfl) fo80_3) rfl ?_
  refine St.ev _ (Ev.ldbP 2 (.mk rfl) Tryd.underlying77 trivial sz77 rfl rfl) rfl ?_
  refine St.slot 18 (simV x.type) rfl rfl ?_
  refine St.storeA (Opd.mk rfl) (Opd.mk rfl) sz77 (by first | simp only [List.length_cons, List.length_nil] | rfl) (by simp only [List.all_cons, List.all_nil, Bool.and_true, Bool.and_eq_true]; exact ⟨rfl, x.type.av.2⟩) ?_
  refine St.asg ?_
  refine St.nil (St.then_normal (St.rett (St.in_ret (St.then_ret ?_))))
  refine St.rets [_, _] [dat (simD x.type)] Tryd.results71 ⟨⟨_, _, _, _, rfl, InB.mem, .inl ⟨⟨_, Tryd.underlying77⟩, sz77, rfl⟩⟩, ⟨rfl, trivial⟩⟩ ?_ (fun _ hw => hw.sub)
  exact ⟨x.type, true, rfl, hw.2.2.2, (fun _ => hsw), ((fun hb => by cases hb)), rfl⟩
 ·skip
  try simp only [jbAll] at h15
  rw [if_neg h15] at hsw
  refine St.seq (St.rg ?_)
  refine St.ev _ (Ev.eql (.mk rfl) (.mk rfl)) rfl ?_
  refine St.asg ?_
  refine St.nil (St.then_normal ?_)
  refine St.cond _ rfl (fun h19 => ?_) (fun h19 => ?_)
  ·skip
   try simp only [jbAll] at h19
   rw [if_pos h19] at hsw
   obtain ⟨s, hs⟩ := some_of_lt (show ctx.length - 1 - x.index.toNat < ctx.length by omega)
   refine St.dallAt simD ctx (x := s) (List.mem_of_getElem? hs) ?_
   refine St.seq (St.rg ?_)
   refine St.mv ?_
   refine St.mv ?_
   refine St.ev _ (Ev.lensl (.mk rfl) Tryd.underlying75) rfl ?_
   refine St.ev _ (Ev.sub (.mk rfl) (.mk rfl) (by omega)) rfl ?_
   refine St.ev _ (Ev.fldb0 (.mk rfl) fo80_2) rfl ?_
   refine St.ev _ (Ev.ldb (.mk rfl) Tryd.underlying3 trivial (by rfl)) rfl ?_
   refine St.ev _ (Ev.sub (.mk rfl) (.mk rfl) (by omega)) rfl ?_
   refine St.ev _ (Ev.idxaddr (k := (ctx.length - 1 - x.index.toNat)) (.mk rfl) (.mk rfl) Tryd.underlying75 sz77 (by omega) (by omega)) rfl ?_
   refine St.ev _ (Ev.ldA (.mk rfl) hs Tryd.underlying77 trivial sz77 Cel.eq) rfl ?_
   refine St.storeA (Opd.mk rfl) (Opd.mk rfl) sz77 (by first | simp only [List.length_cons, List.length_nil] | rfl) (by simp only [List.all_cons, List.all_nil, Bool.and_true, Bool.and_eq_true]; exact ⟨rfl, s.av.2⟩) ?_
   refine St.asg ?_
   refine St.nil (St.then_normal (St.rett (St.in_ret (St.then_ret ?_))))
   refine St.rets [_, _] [dat (simD s)] Tryd.results71 ⟨⟨_, _, _, _, rfl, InB.mem, .inl ⟨⟨_, Tryd.underlying77⟩, sz77, rfl⟩⟩, ⟨rfl, trivial⟩⟩ ?_ (fun _ hw => hw.sub)
   exact ⟨s, true, rfl, hcw s (List.mem_of_getElem? hs), (fun _ => by rw [hsw, List.getElem?_map, hs]; rfl), ((fun hb => by cases hb)), rfl⟩
  ·skip
   try simp only [jbAll] at h19
   rw [if_neg h19] at hsw
   refine St.seq (St.rg ?_)
   refine St.ev _ (Ev.eql (.mk rfl) (.mk rfl)) rfl ?_
   refine St.asg ?_
   refine St.nil (St.then_normal ?_)
   refine St.cond _ rfl (fun h30 => ?_) (fun h30 => ?_)
   ·skip
    try simp only [jbAll] at h30
    rw [if_pos h30] at hsw
    obtain ⟨y, hy⟩ := one_args (show x.args.length = 1 by omega)
    have h1l : x.args.length = 1 := by omega
    have hym : y ∈ x.args := by rw [hy]; simp
    have hyg := hk (termE y) (List.mem_map_of_mem hym)
    rw [if_pos h30] at hyg
    refine St.dallAt termD x.args (x := y) hym ?_
    rw [hy, List.map_cons, List.map_nil, typHead_cons] at hsw
    refine St.seq ?_
    refine St.par [] mixed ?_
    refine SW.defer 0 (by repeat (first | refine NP.then ?_ | refine NP.inBlock ?_ | exact NP.body)) (by kernel_rfl) rfl (fun R => Ev.move (.mk rfl)) (by kernel_rfl) rfl ?_
    refine SW.defer 1 (by repeat (first | refine NP.then ?_ | refine NP.inBlock ?_ | exact NP.body)) (by kernel_rfl) rfl (fun R => Ev.move (.mk rfl)) (by kernel_rfl) rfl ?_
    refine SW.defer 2 (by repeat (first | refine NP.then ?_ | refine NP.inBlock ?_ | exact NP.body)) (by kernel_rfl) rfl (fun R => Ev.lensl (.mk rfl) Tryd.underlying75) (by kernel_rfl) rfl ?_
    refine SW.defer 3 (by repeat (first | refine NP.then ?_ | refine NP.inBlock ?_ | exact NP.body)) (by kernel_rfl) rfl (fun R => Ev.move (.mk rfl)) (by kernel_rfl) rfl ?_
    refine SW.defer 4 (by repeat (first | refine NP.then ?_ | refine NP.inBlock ?_ | exact NP.body)) (by kernel_rfl) rfl (fun R => Ev.lensl (.mk rfl) Tryd.underlying75) (by kernel_rfl) rfl ?_
    refine SW.defer 5 (by repeat (first | refine NP.then ?_ | refine NP.inBlock ?_ | exact NP.body)) (by kernel_rfl) rfl (fun R => Ev.clip (.mk rfl) (.mk rfl) (.mk rfl) Tryd.underlying75 sz77 rfl rfl) (by kernel_rfl) rfl ?_
    refine SW.defer 6 (by repeat (first | refine NP.then ?_ | refine NP.inBlock ?_ | exact NP.body)) (by kernel_rfl) rfl (fun R => Ev.fldb0 (.mk rfl) fo80_3) (by kernel_rfl) rfl ?_
    refine SW.defer 7 (by repeat (first | refine NP.then ?_ | refine NP.inBlock ?_ | exact NP.body)) (by kernel_rfl) rfl (fun R => Ev.ldbP 2 (.mk rfl) Tryd.underlying77 trivial sz77 rfl rfl) (by kernel_rfl) rfl ?_
    refine SW.slot 39 (simV x.type) rfl rfl ?_
    refine SW.turn1 (i := 8) (by kernel_rfl) rfl ?_
    refine St.bsl rfl (.cons (.mk rfl) .nil) Tryd.underlying75 sz77 zv77 rfl rfl (by simp [Value.cells]) rfl rfl (fun b40 => ?_)
    refine St.nil (St.then_normal ?_)
    refine SW.go ?_
    refine SW.turn1 (i := 9) (by kernel_rfl) rfl ?_
    refine St.appendClip (.mk rfl) (.mk rfl) Tryd.underlying75 sz77 zv77 by77 (two_of (p := fun u : Value => u.oneCell' = true) rfl x.type.av.2) (by omega) (by omega) rfl rfl rfl rfl (fun v41 hv41 => ?_)
    refine St.publish v41 simR (ctx ++ [x.type]) (by simp [rows]; rfl) (by simp) (fun u hu => (List.mem_append.1 hu).elim (hcw u) (fun h => by rw [List.mem_singleton.1 h]; exact hw.2.2.2)) ?_
    refine St.dallSnoc simD (xs := ctx) (x := x.type) ?_
    refine St.nil (St.then_normal ?_)
    refine SW.go ?_
    refine SW.defer 10 (by repeat (first | refine NP.then ?_ | refine NP.inBlock ?_ | exact NP.body)) (by kernel_rfl) rfl (fun R => Ev.assign (.mk rfl)) (by kernel_rfl) rfl ?_
    refine SW.done (by kernel_rfl) ?_
    refine St.then_normal (St.seq (St.rg ?_))
    refine St.ev _ (Ev.fldb0 (.mk rfl) fo80_4) rfl ?_
    refine St.ev _ (Ev.ldb (.mk rfl) Tryd.underlying78 trivial (by rfl)) rfl ?_
    refine St.ev _ (Ev.idxaddr (k := 0) (.mk rfl) (.mk rfl) Tryd.underlying78 sz80 rfl (by omega)) rfl ?_
    refine St.ev _ (Ev.ldA (.mk rfl) (show x.args[0]? = some y by rw [hy]; rfl) Tryd.underlying80 trivial sz80 Cel.eq) rfl ?_
    refine St.mv ?_
    refine St.calld (ih y hym (ctx ++ [x.type]) v41 (d + 1) (by rw [← len_snoc]; exact hyg) (hxw y hym) (by rw [← len_snoc]; omega)) cb71 (.cons (.mk rfl) (.cons (.mk rfl) .nil)) rfl ?_
    rintro v48 _ ⟨s, b1, rfl, hs1w, hs1t, hs1f, rfl⟩
    refine St.app1 ?_
    refine St.mv ?_
    refine St.ev _ (Ev.extract (.mk rfl) rfl) rfl ?_
    refine St.ev _ (Ev.extract (.mk rfl) rfl) rfl ?_
    refine St.alloc zc77 rfl (fun b7 => ?_)
    refine St.storeA (Opd.mk rfl) (Opd.mk rfl) sz77 (by first | simp only [List.length_cons, List.length_nil] | rfl) (by simp only [List.all_cons, List.all_nil, Bool.and_true, Bool.and_eq_true]; exact ⟨rfl, s.av.2⟩) ?_
    refine St.asg ?_
    refine St.nil (St.then_normal (St.seq (St.rg ?_)))
    refine St.ev _ (Ev.fldb0 (.mk rfl) fo80_3) rfl ?_
    refine St.ev _ (Ev.ldbP 2 (.mk rfl) Tryd.underlying77 trivial sz77 rfl rfl) rfl ?_
    refine St.slot 52 (simV x.type) rfl rfl ?_
    refine St.ev _ (Ev.ldbA (.mk rfl) Tryd.underlying77 trivial (by exact sz77)) rfl ?_
    refine St.bsl rfl (.cons (.mk rfl) (.cons (.mk rfl) .nil)) Tryd.underlying75 sz77 zv77 rfl rfl (by simp [Value.cells]) rfl rfl (fun b54 => ?_)
    refine St.publish (.slice (some ⟨b54, 0, none⟩) 2 2) simR [x.type, s] rfl rfl (two_of hw.2.2.2 hs1w) ?_
    refine St.dallNil simD ?_
    refine St.dallCons simD (xs := []) (x := s) ?_
    refine St.dallCons simD (xs := [s]) (x := x.type) ?_
    refine St.mkSim [] (.slice (some ⟨b54, 0, none⟩) 2 2) rfl [x.type, s] ?_
    refine St.ev _ (Ev.build (ps := [(1, (.tmp 54))]) (Opds.cons (Opd.mk rfl) Opds.nil) (fun w => bld77_1 rfl w)) rfl ?_
    refine St.mv ?_
    refine St.storeA (Opd.mk rfl) (Opd.mk rfl) sz77 (by first | simp only [List.length_cons, List.length_nil] | rfl) (by simp only [List.all_cons, List.all_nil, Bool.and_true, Bool.and_eq_true]; exact ⟨rfl, rfl⟩) ?_
    refine St.asg ?_
    refine St.nil (St.then_normal (St.rett (St.in_ret (St.then_ret ?_))))
    refine St.rets [_, _] [dat (simD (.mk [] ⟨(.slice (some ⟨b54, 0, none⟩) 2 2), rfl⟩ [x.type, s]))] Tryd.results71 ⟨⟨_, _, _, _, rfl, InB.mem, .inl ⟨⟨_, Tryd.underlying77⟩, sz77, rfl⟩⟩, ⟨rfl, trivial⟩⟩ ?_ (fun _ hw => hw.sub)
    exact ⟨(.mk [] ⟨(.slice (some ⟨b54, 0, none⟩) 2 2), rfl⟩ [x.type, s]), b1, rfl, Nat.zero_le _, (fun hb => by rw [hsw, show typT (termE y) (ctx.map simE ++ [simE x.type]) = some (simE s) by rw [← hs1t hb, List.map_append]; rfl, simE_mk]; rfl), (fun hb => by rw [hsw, show typT (termE y) (ctx.map simE ++ [simE x.type]) = none by rw [← hs1f hb, List.map_append]; rfl]; rfl), rfl⟩
   ·skip
    try simp only [jbAll] at h30
    rw [if_neg h30] at hsw
    obtain ⟨y, z, hy⟩ := two_args (show x.args.length = 2 by omega)
    have h2l : x.args.length = 2 := by omega
    have hym : y ∈ x.args := by rw [hy]; simp
    have hzm : z ∈ x.args := by rw [hy]; simp
    have hyg := hk (termE y) (List.mem_map_of_mem hym)
    have hzg := hk (termE z) (List.mem_map_of_mem hzm)
    rw [if_neg h30] at hyg hzg
    refine St.dallAt termD x.args (x := y) hym ?_
    refine St.dallAt termD x.args (x := z) hzm ?_
    rw [hy, List.map_cons, List.map_cons, List.map_nil, typHead_cons, typSnd_cons] at hsw
    refine St.skip (St.in_normal (St.then_normal (St.seq (St.rg ?_))))
    refine St.ev _ (Ev.fldb0 (.mk rfl) fo80_4) rfl ?_
    refine St.ev _ (Ev.ldb (.mk rfl) Tryd.underlying78 trivial (by rfl)) rfl ?_
    refine St.ev _ (Ev.idxaddr (k := 0) (.mk rfl) (.mk rfl) Tryd.underlying78 sz80 rfl (by omega)) rfl ?_
    refine St.ev _ (Ev.ldA (.mk rfl) (show x.args[0]? = some y by rw [hy]; rfl) Tryd.underlying80 trivial sz80 Cel.eq) rfl ?_
    refine St.mv ?_
    refine St.calld (ih y hym ctx v (d + 1) hyg (hxw y hym) (by omega)) cb71 (.cons (.mk rfl) (.cons (.mk rfl) .nil)) rfl ?_
    rintro v63 _ ⟨s1, b1, rfl, hs1w, hs1t, hs1f, rfl⟩
    refine St.app1 ?_
    refine St.mv ?_
    refine St.ev _ (Ev.extract (.mk rfl) rfl) rfl ?_
    refine St.ev _ (Ev.extract (.mk rfl) rfl) rfl ?_
    refine St.alloc zc77 rfl (fun b9 => ?_)
    refine St.storeA (Opd.mk rfl) (Opd.mk rfl) sz77 (by first | simp only [List.length_cons, List.length_nil] | rfl) (by simp only [List.all_cons, List.all_nil, Bool.and_true, Bool.and_eq_true]; exact ⟨rfl, s1.av.2⟩) ?_
    refine St.asg ?_
    refine St.nil (St.then_normal (St.seq (St.rg ?_)))
    refine St.ev _ (Ev.fldb0 (.mk rfl) fo80_4) rfl ?_
    refine St.ev _ (Ev.ldb (.mk rfl) Tryd.underlying78 trivial (by rfl)) rfl ?_
    refine St.ev _ (Ev.idxaddr (k := 1) (.mk rfl) (.mk rfl) Tryd.underlying78 sz80 rfl (by omega)) rfl ?_
    refine St.ev _ (Ev.ldA (.mk rfl) (show x.args[1]? = some z by rw [hy]; rfl) Tryd.underlying80 trivial sz80 Cel.eq) rfl ?_
    refine St.mv ?_
    refine St.calld (ih z hzm ctx v (d + 1) hzg (hxw z hzm) (by omega)) cb71 (.cons (.mk rfl) (.cons (.mk rfl) .nil)) rfl ?_
    rintro v72 _ ⟨s2, b2, rfl, hs2w, hs2t, hs2f, rfl⟩
    refine St.app1 ?_
    refine St.mv ?_
    refine St.ev _ (Ev.extract (.mk rfl) rfl) rfl ?_
    refine St.ev _ (Ev.extract (.mk rfl) rfl) rfl ?_
    refine St.alloc zc77 rfl (fun b11 => ?_)
    refine St.storeA (Opd.mk rfl) (Opd.mk rfl) sz77 (by first | simp only [List.length_cons, List.length_nil] | rfl) (by simp only [List.all_cons, List.all_nil, Bool.and_true, Bool.and_eq_true]; exact ⟨rfl, s2.av.2⟩) ?_
    refine St.asg ?_
    refine St.nil (St.then_normal (St.seq (St.seq ?_)))
    refine St.openSim s1 ?_
    refine St.wf s1.av.1 (fun hpw hpl => ?_)
    refine St.headSim s1.args ?_
    refine St.parL [] mixed ?_
    refine SW.defer 0 (by repeat (first | refine NP.then ?_ | refine NP.inBlock ?_ | exact NP.body)) (by kernel_rfl) rfl (fun R => Ev.move (.mk rfl)) (by kernel_rfl) rfl ?_
    refine SW.defer 1 (by repeat (first | refine NP.then ?_ | refine NP.inBlock ?_ | exact NP.body)) (by kernel_rfl) rfl (fun R => Ev.not (.mk rfl)) (by kernel_rfl) rfl ?_
    refine SW.defer 2 (by repeat (first | refine NP.then ?_ | refine NP.inBlock ?_ | exact NP.body)) (by kernel_rfl) rfl (fun R => Ev.move (.mk rfl)) (by kernel_rfl) rfl ?_
    refine SW.split 77 _ rfl (fun hs77 => ?_) (fun hs77 => ?_)
    ·skip
     refine SW.gf 3 undef (by repeat (first | refine NP.then ?_ | refine NP.inBlock ?_ | exact NP.body)) (by kernel_rfl) rfl rfl rfl (fun R hg => by cases hg) (by kernel_rfl) rfl ?_
     refine SW.slot 78 undef rfl (gv_false rfl _) ?_
     refine SW.gf 4 undef (by repeat (first | refine NP.then ?_ | refine NP.inBlock ?_ | exact NP.body)) (by kernel_rfl) rfl rfl rfl (fun R hg => by cases hg) (by kernel_rfl) rfl ?_
     refine SW.slot 79 undef rfl (gv_false rfl _) ?_
     refine SW.defer 5 (by repeat (first | refine NP.then ?_ | refine NP.inBlock ?_ | exact NP.body)) (by kernel_rfl) rfl (fun R => Ev.pickt (.mk rfl) rfl (.mk rfl)) (by kernel_rfl) rfl ?_
     refine SW.defer 6 (by repeat (first | refine NP.then ?_ | refine NP.inBlock ?_ | exact NP.body)) (by kernel_rfl) rfl (fun R => Ev.move (.mk rfl)) (by kernel_rfl) rfl ?_
     refine SW.slot 81 (.bool true) rfl (congrArg Value.bool rfl) ?_
     refine SW.gf 7 undef (by repeat (first | refine NP.then ?_ | refine NP.inBlock ?_ | exact NP.body)) (by kernel_rfl) rfl rfl rfl (fun R hg => by cases hg) (by kernel_rfl) rfl ?_
     refine SW.slot 82 undef rfl (gv_false rfl _) ?_
     refine SW.gf 8 undef (by repeat (first | refine NP.then ?_ | refine NP.inBlock ?_ | exact NP.body)) (by kernel_rfl) rfl rfl rfl (fun R hg => by cases hg) (by kernel_rfl) rfl ?_
     refine SW.slot 83 undef rfl (gv_false rfl _) ?_
     refine SW.gf 9 undef (by repeat (first | refine NP.then ?_ | refine NP.inBlock ?_ | exact NP.body)) (by kernel_rfl) rfl rfl rfl (fun R hg => by cases hg) (by kernel_rfl) rfl ?_
     refine SW.slot 84 undef rfl (gv_false rfl _) ?_
     refine SW.gf 10 undef (by repeat (first | refine NP.then ?_ | refine NP.inBlock ?_ | exact NP.body)) (by kernel_rfl) rfl rfl rfl (fun R hg => by cases hg) (by kernel_rfl) rfl ?_
     refine SW.slot 85 undef rfl (gv_false rfl _) ?_
     refine SW.defer 11 (by repeat (first | refine NP.then ?_ | refine NP.inBlock ?_ | exact NP.body)) (by kernel_rfl) rfl (fun R => Ev.pickt (.mk rfl) rfl (.mk rfl)) (by kernel_rfl) rfl ?_
     refine SW.defer 12 (by repeat (first | refine NP.then ?_ | refine NP.inBlock ?_ | exact NP.body)) (by kernel_rfl) rfl (fun R => Ev.move (.mk rfl)) (by kernel_rfl) rfl ?_
     refine SW.slot 87 (.bool true) rfl (congrArg Value.bool rfl) ?_
     refine SW.gf 13 undef (by repeat (first | refine NP.then ?_ | refine NP.inBlock ?_ | exact NP.body)) (by kernel_rfl) rfl rfl rfl (fun R hg => by cases hg) (by kernel_rfl) rfl ?_
     refine SW.slot 88 undef rfl (gv_false rfl _) ?_
     refine SW.gf 14 undef (by repeat (first | refine NP.then ?_ | refine NP.inBlock ?_ | exact NP.body)) (by kernel_rfl) rfl rfl rfl (fun R hg => by cases hg) (by kernel_rfl) rfl ?_
     refine SW.slot 89 undef rfl (gv_false rfl _) ?_
     refine SW.gf 15 undef (by repeat (first | refine NP.then ?_ | refine NP.inBlock ?_ | exact NP.body)) (by kernel_rfl) rfl rfl rfl (fun R hg => by cases hg) (by kernel_rfl) rfl ?_
     refine SW.slot 90 undef rfl (gv_false rfl _) ?_
     refine SW.gf 16 undef (by repeat (first | refine NP.then ?_ | refine NP.inBlock ?_ | exact NP.body)) (by kernel_rfl) rfl rfl rfl (fun R hg => by cases hg) (by kernel_rfl) rfl ?_
     refine SW.slot 91 undef rfl (gv_false rfl _) ?_
     refine SW.gf 17 undef (by repeat (first | refine NP.then ?_ | refine NP.inBlock ?_ | exact NP.body)) (by kernel_rfl) rfl rfl rfl (fun R hg => by cases hg) (by kernel_rfl) rfl ?_
     refine SW.slot 92 undef rfl (gv_false rfl _) ?_
     refine SW.gf 18 undef (by repeat (first | refine NP.then ?_ | refine NP.inBlock ?_ | exact NP.body)) (by kernel_rfl) rfl rfl rfl (fun R hg => by cases hg) (by kernel_rfl) rfl ?_
     refine SW.slot 93 undef rfl (gv_false rfl _) ?_
     refine SW.gf 19 undef (by repeat (first | refine NP.then ?_ | refine NP.inBlock ?_ | exact NP.body)) (by kernel_rfl) rfl rfl rfl (fun R hg => by cases hg) (by kernel_rfl) rfl ?_
     refine SW.slot 94 undef rfl (gv_false rfl _) ?_
     refine SW.defer 20 (by repeat (first | refine NP.then ?_ | refine NP.inBlock ?_ | exact NP.body)) (by kernel_rfl) rfl (fun R => Ev.pickt (.mk rfl) rfl (.mk rfl)) (by kernel_rfl) rfl ?_
     refine SW.done (by kernel_rfl) ?_
     refine St.then_normal ?_
     refine St.cond _ rfl (fun h95 => ?_) (fun h95 => ?_)
     ·skip
      skip
      have hno : b1 = true → b2 = true → ∀ p q, (simE s1).args = [p, q] → sameS p (simE s2) = true → False := fun e1 _ _ _ _ _ => by rw [e1] at hs77; cases hs77
      refine St.seq (St.rg ?_)
      refine St.ev _ (Ev.build (ps := []) (Opds.nil) (fun w => bld77_  w)) rfl ?_
      refine St.storeA (Opd.mk rfl) (Opd.mk rfl) sz77 (by first | simp only [List.length_cons, List.length_nil] | rfl) (by simp only [List.all_cons, List.all_nil, Bool.and_true, Bool.and_eq_true]; exact ⟨rfl, rfl⟩) ?_
      refine St.asg ?_
      refine St.nil (St.then_normal (St.rett (St.then_ret ?_)))
      refine St.slNil simR ?_
      refine St.dallNil simD ?_
      refine St.mkSim [] (.slice none 0 0) rfl [] ?_
      refine St.rets [_, _] [dat (simD simN)] Tryd.results71 ⟨⟨_, _, _, _, rfl, InB.mem, .inl ⟨⟨_, Tryd.underlying77⟩, sz77, rfl⟩⟩, ⟨rfl, trivial⟩⟩ ?_ (fun _ hw => hw.sub)
      exact ⟨simN, false, rfl, Nat.zero_le _, ((fun hb => by cases hb)), (fun _ => by rw [hsw]; exact typ4_none hs1t hs1f hs2t hs2f hno), rfl⟩
     ·skip
      skip
      cases h95
    ·skip
     refine SW.gf 3 _ (by repeat (first | refine NP.then ?_ | refine NP.inBlock ?_ | exact NP.body)) (by kernel_rfl) rfl rfl rfl (fun R _ => Ev.move (.mk rfl)) (by kernel_rfl) rfl ?_
     refine SW.slot 78 _ rfl (gv_true rfl _) ?_
     refine SW.gf 4 _ (by repeat (first | refine NP.then ?_ | refine NP.inBlock ?_ | exact NP.body)) (by kernel_rfl) rfl rfl rfl (fun R _ => Ev.not (.mk rfl)) (by kernel_rfl) rfl ?_
     refine SW.slot 79 _ rfl (gv_true rfl _) ?_
     refine SW.defer 5 (by repeat (first | refine NP.then ?_ | refine NP.inBlock ?_ | exact NP.body)) (by kernel_rfl) rfl (fun R => Ev.pickf (.mk rfl) rfl (.mk rfl)) (by kernel_rfl) rfl ?_
     refine SW.defer 6 (by repeat (first | refine NP.then ?_ | refine NP.inBlock ?_ | exact NP.body)) (by kernel_rfl) rfl (fun R => Ev.move (.mk rfl)) (by kernel_rfl) rfl ?_
     refine SW.split 81 _ rfl (fun hs81 => ?_) (fun hs81 => ?_)
     ·skip
      refine SW.gf 7 undef (by repeat (first | refine NP.then ?_ | refine NP.inBlock ?_ | exact NP.body)) (by kernel_rfl) rfl rfl rfl (fun R hg => by cases hg) (by kernel_rfl) rfl ?_
      refine SW.slot 82 undef rfl (gv_false rfl _) ?_
      refine SW.gf 8 undef (by repeat (first | refine NP.then ?_ | refine NP.inBlock ?_ | exact NP.body)) (by kernel_rfl) rfl rfl rfl (fun R hg => by cases hg) (by kernel_rfl) rfl ?_
      refine SW.slot 83 undef rfl (gv_false rfl _) ?_
      refine SW.gf 9 undef (by repeat (first | refine NP.then ?_ | refine NP.inBlock ?_ | exact NP.body)) (by kernel_rfl) rfl rfl rfl (fun R hg => by cases hg) (by kernel_rfl) rfl ?_
      refine SW.slot 84 undef rfl (gv_false rfl _) ?_
      refine SW.gf 10 undef (by repeat (first | refine NP.then ?_ | refine NP.inBlock ?_ | exact NP.body)) (by kernel_rfl) rfl rfl rfl (fun R hg => by cases hg) (by kernel_rfl) rfl ?_
      refine SW.slot 85 undef rfl (gv_false rfl _) ?_
      refine SW.defer 11 (by repeat (first | refine NP.then ?_ | refine NP.inBlock ?_ | exact NP.body)) (by kernel_rfl) rfl (fun R => Ev.pickt (.mk rfl) rfl (.mk rfl)) (by kernel_rfl) rfl ?_
      refine SW.defer 12 (by repeat (first | refine NP.then ?_ | refine NP.inBlock ?_ | exact NP.body)) (by kernel_rfl) rfl (fun R => Ev.move (.mk rfl)) (by kernel_rfl) rfl ?_
      refine SW.slot 87 (.bool true) rfl (congrArg Value.bool rfl) ?_
      refine SW.gf 13 undef (by repeat (first | refine NP.then ?_ | refine NP.inBlock ?_ | exact NP.body)) (by kernel_rfl) rfl rfl rfl (fun R hg => by cases hg) (by kernel_rfl) rfl ?_
      refine SW.slot 88 undef rfl (gv_false rfl _) ?_
      refine SW.gf 14 undef (by repeat (first | refine NP.then ?_ | refine NP.inBlock ?_ | exact NP.body)) (by kernel_rfl) rfl rfl rfl (fun R hg => by cases hg) (by kernel_rfl) rfl ?_
      refine SW.slot 89 undef rfl (gv_false rfl _) ?_
      refine SW.gf 15 undef (by repeat (first | refine NP.then ?_ | refine NP.inBlock ?_ | exact NP.body)) (by kernel_rfl) rfl rfl rfl (fun R hg => by cases hg) (by kernel_rfl) rfl ?_
      refine SW.slot 90 undef rfl (gv_false rfl _) ?_
      refine SW.gf 16 undef (by repeat (first | refine NP.then ?_ | refine NP.inBlock ?_ | exact NP.body)) (by kernel_rfl) rfl rfl rfl (fun R hg => by cases hg) (by kernel_rfl) rfl ?_
      refine SW.slot 91 undef rfl (gv_false rfl _) ?_
      refine SW.gf 17 undef (by repeat (first | refine NP.then ?_ | refine NP.inBlock ?_ | exact NP.body)) (by kernel_rfl) rfl rfl rfl (fun R hg => by cases hg) (by kernel_rfl) rfl ?_
      refine SW.slot 92 undef rfl (gv_false rfl _) ?_
      refine SW.gf 18 undef (by repeat (first | refine NP.then ?_ | refine NP.inBlock ?_ | exact NP.body)) (by kernel_rfl) rfl rfl rfl (fun R hg => by cases hg) (by kernel_rfl) rfl ?_
      refine SW.slot 93 undef rfl (gv_false rfl _) ?_
      refine SW.gf 19 undef (by repeat (first | refine NP.then ?_ | refine NP.inBlock ?_ | exact NP.body)) (by kernel_rfl) rfl rfl rfl (fun R hg => by cases hg) (by kernel_rfl) rfl ?_
      refine SW.slot 94 undef rfl (gv_false rfl _) ?_
      refine SW.defer 20 (by repeat (first | refine NP.then ?_ | refine NP.inBlock ?_ | exact NP.body)) (by kernel_rfl) rfl (fun R => Ev.pickt (.mk rfl) rfl (.mk rfl)) (by kernel_rfl) rfl ?_
      refine SW.done (by kernel_rfl) ?_
      refine St.then_normal ?_
      refine St.cond _ rfl (fun h95 => ?_) (fun h95 => ?_)
      ·skip
       skip
       have hno : b1 = true → b2 = true → ∀ p q, (simE s1).args = [p, q] → sameS p (simE s2) = true → False := fun _ e2 _ _ _ _ => by rw [e2] at hs81; cases hs81
       refine St.seq (St.rg ?_)
       refine St.ev _ (Ev.build (ps := []) (Opds.nil) (fun w => bld77_  w)) rfl ?_
       refine St.storeA (Opd.mk rfl) (Opd.mk rfl) sz77 (by first | simp only [List.length_cons, List.length_nil] | rfl) (by simp only [List.all_cons, List.all_nil, Bool.and_true, Bool.and_eq_true]; exact ⟨rfl, rfl⟩) ?_
       refine St.asg ?_
       refine St.nil (St.then_normal (St.rett (St.then_ret ?_)))
       refine St.slNil simR ?_
       refine St.dallNil simD ?_
       refine St.mkSim [] (.slice none 0 0) rfl [] ?_
       refine St.rets [_, _] [dat (simD simN)] Tryd.results71 ⟨⟨_, _, _, _, rfl, InB.mem, .inl ⟨⟨_, Tryd.underlying77⟩, sz77, rfl⟩⟩, ⟨rfl, trivial⟩⟩ ?_ (fun _ hw => hw.sub)
       exact ⟨simN, false, rfl, Nat.zero_le _, ((fun hb => by cases hb)), (fun _ => by rw [hsw]; exact typ4_none hs1t hs1f hs2t hs2f hno), rfl⟩
      ·skip
       skip
       cases h95
     ·skip
      refine SW.gf 7 _ (by repeat (first | refine NP.then ?_ | refine NP.inBlock ?_ | exact NP.body)) (by kernel_rfl) rfl rfl rfl (fun R _ => Ev.fldb0 (.mk rfl) fo77_1) (by kernel_rfl) rfl ?_
      refine SW.slot 82 _ rfl (gv_true rfl _) ?_
      refine SW.gf 8 _ (by repeat (first | refine NP.then ?_ | refine NP.inBlock ?_ | exact NP.body)) (by kernel_rfl) rfl rfl rfl (fun R _ => Ev.ldb (.mk rfl) Tryd.underlying75 trivial (by rfl)) (by kernel_rfl) rfl ?_
      refine SW.slot 83 _ rfl (gv_true rfl _) ?_
      refine SW.gf 9 _ (by repeat (first | refine NP.then ?_ | refine NP.inBlock ?_ | exact NP.body)) (by kernel_rfl) rfl rfl rfl (fun R _ => Ev.lensl (.mk rfl) Tryd.underlying75) (by kernel_rfl) rfl ?_
      refine SW.slot 84 _ rfl (gv_true rfl _) ?_
      refine SW.gf 10 _ (by repeat (first | refine NP.then ?_ | refine NP.inBlock ?_ | exact NP.body)) (by kernel_rfl) rfl rfl rfl (fun R _ => Ev.neq (.mk rfl) (.mk rfl)) (by kernel_rfl) rfl ?_
      refine SW.slot 85 _ rfl (gv_true rfl _) ?_
      refine SW.defer 11 (by repeat (first | refine NP.then ?_ | refine NP.inBlock ?_ | exact NP.body)) (by kernel_rfl) rfl (fun R => Ev.pickf (.mk rfl) rfl (.mk rfl)) (by kernel_rfl) rfl ?_
      refine SW.defer 12 (by repeat (first | refine NP.then ?_ | refine NP.inBlock ?_ | exact NP.body)) (by kernel_rfl) rfl (fun R => Ev.move (.mk rfl)) (by kernel_rfl) rfl ?_
      refine SW.split 87 _ rfl (fun hs87 => ?_) (fun hs87 => ?_)
      ·skip
       refine SW.gf 13 undef (by repeat (first | refine NP.then ?_ | refine NP.inBlock ?_ | exact NP.body)) (by kernel_rfl) rfl rfl rfl (fun R hg => by cases hg) (by kernel_rfl) rfl ?_
       refine SW.slot 88 undef rfl (gv_false rfl _) ?_
       refine SW.gf 14 undef (by repeat (first | refine NP.then ?_ | refine NP.inBlock ?_ | exact NP.body)) (by kernel_rfl) rfl rfl rfl (fun R hg => by cases hg) (by kernel_rfl) rfl ?_
       refine SW.slot 89 undef rfl (gv_false rfl _) ?_
       refine SW.gf 15 undef (by repeat (first | refine NP.then ?_ | refine NP.inBlock ?_ | exact NP.body)) (by kernel_rfl) rfl rfl rfl (fun R hg => by cases hg) (by kernel_rfl) rfl ?_
       refine SW.slot 90 undef rfl (gv_false rfl _) ?_
       refine SW.gf 16 undef (by repeat (first | refine NP.then ?_ | refine NP.inBlock ?_ | exact NP.body)) (by kernel_rfl) rfl rfl rfl (fun R hg => by cases hg) (by kernel_rfl) rfl ?_
       refine SW.slot 91 undef rfl (gv_false rfl _) ?_
       refine SW.gf 17 undef (by repeat (first | refine NP.then ?_ | refine NP.inBlock ?_ | exact NP.body)) (by kernel_rfl) rfl rfl rfl (fun R hg => by cases hg) (by kernel_rfl) rfl ?_
       refine SW.slot 92 undef rfl (gv_false rfl _) ?_
       refine SW.gf 18 undef (by repeat (first | refine NP.then ?_ | refine NP.inBlock ?_ | exact NP.body)) (by kernel_rfl) rfl rfl rfl (fun R hg => by cases hg) (by kernel_rfl) rfl ?_
       refine SW.slot 93 undef rfl (gv_false rfl _) ?_
       refine SW.gf 19 undef (by repeat (first | refine NP.then ?_ | refine NP.inBlock ?_ | exact NP.body)) (by kernel_rfl) rfl rfl rfl (fun R hg => by cases hg) (by kernel_rfl) rfl ?_
       refine SW.slot 94 undef rfl (gv_false rfl _) ?_
       refine SW.defer 20 (by repeat (first | refine NP.then ?_ | refine NP.inBlock ?_ | exact NP.body)) (by kernel_rfl) rfl (fun R => Ev.pickt (.mk rfl) rfl (.mk rfl)) (by kernel_rfl) rfl ?_
       refine SW.done (by kernel_rfl) ?_
       refine St.then_normal ?_
       refine St.cond _ rfl (fun h95 => ?_) (fun h95 => ?_)
       ·skip
        skip
        simp only [jbAll] at hs87
        have hno : b1 = true → b2 = true → ∀ p q, (simE s1).args = [p, q] → sameS p (simE s2) = true → False := fun _ _ p q e _ => by rw [simE_args] at e; have e3 := congrArg List.length e; rw [List.length_map] at e3; exact hs87 (by rw [e3]; rfl)
        refine St.seq (St.rg ?_)
        refine St.ev _ (Ev.build (ps := []) (Opds.nil) (fun w => bld77_  w)) rfl ?_
        refine St.storeA (Opd.mk rfl) (Opd.mk rfl) sz77 (by first | simp only [List.length_cons, List.length_nil] | rfl) (by simp only [List.all_cons, List.all_nil, Bool.and_true, Bool.and_eq_true]; exact ⟨rfl, rfl⟩) ?_
        refine St.asg ?_
        refine St.nil (St.then_normal (St.rett (St.then_ret ?_)))
        refine St.slNil simR ?_
        refine St.dallNil simD ?_
        refine St.mkSim [] (.slice none 0 0) rfl [] ?_
        refine St.rets [_, _] [dat (simD simN)] Tryd.results71 ⟨⟨_, _, _, _, rfl, InB.mem, .inl ⟨⟨_, Tryd.underlying77⟩, sz77, rfl⟩⟩, ⟨rfl, trivial⟩⟩ ?_ (fun _ hw => hw.sub)
        exact ⟨simN, false, rfl, Nat.zero_le _, ((fun hb => by cases hb)), (fun _ => by rw [hsw]; exact typ4_none hs1t hs1f hs2t hs2f hno), rfl⟩
       ·skip
        skip
        cases h95
      ·skip
       have hl2q := hs87
       simp only [jbAll] at hl2q
       have hl2 : s1.args.length = 2 := by omega
       obtain ⟨p, q, hpq⟩ := two_args hl2
       refine SW.gf 13 _ (by repeat (first | refine NP.then ?_ | refine NP.inBlock ?_ | exact NP.body)) (by kernel_rfl) rfl rfl rfl (fun R _ => Ev.fldb0 (.mk rfl) fo77_1) (by kernel_rfl) rfl ?_
       refine SW.slot 88 _ rfl (gv_true rfl _) ?_
       refine SW.gf 14 _ (by repeat (first | refine NP.then ?_ | refine NP.inBlock ?_ | exact NP.body)) (by kernel_rfl) rfl rfl rfl (fun R _ => Ev.ldb (.mk rfl) Tryd.underlying75 trivial (by rfl)) (by kernel_rfl) rfl ?_
       refine SW.slot 89 _ rfl (gv_true rfl _) ?_
       refine SW.gf 15 _ (by repeat (first | refine NP.then ?_ | refine NP.inBlock ?_ | exact NP.body)) (by kernel_rfl) rfl rfl rfl (fun R _ => Ev.idxaddr (k := 0) (.mk rfl) (.mk rfl) Tryd.underlying75 sz77 rfl (by omega)) (by kernel_rfl) rfl ?_
       refine SW.slot 90 _ rfl (gv_true rfl _) ?_
       refine SW.gf 16 _ (by repeat (first | refine NP.then ?_ | refine NP.inBlock ?_ | exact NP.body)) (by kernel_rfl) rfl rfl rfl (fun R _ => Ev.ldA (.mk rfl) (headD_two hpq) Tryd.underlying77 trivial sz77 Cel.eq) (by kernel_rfl) rfl ?_
       refine SW.slot 91 _ rfl (gv_true rfl _) ?_
       refine SW.gf 17 _ (by repeat (first | refine NP.then ?_ | refine NP.inBlock ?_ | exact NP.body)) (by kernel_rfl) rfl rfl rfl (fun R _ => Ev.ldbA (.mk rfl) Tryd.underlying77 trivial (by exact sz77)) (by kernel_rfl) rfl ?_
       refine SW.slot 92 _ rfl (gv_true rfl _) ?_
       refine SW.gf 18 _ (by repeat (first | refine NP.then ?_ | refine NP.inBlock ?_ | exact NP.body)) (by kernel_rfl) rfl rfl rfl (fun R _ => Ev.call (same_spec (s1.args.headD simN) s2) cb81 (.cons (.mk rfl) (.cons (.mk rfl) .nil))) (by kernel_rfl) rfl ?_
       refine SW.slot 93 _ rfl (gv_true rfl _) ?_
       refine SW.gf 19 _ (by repeat (first | refine NP.then ?_ | refine NP.inBlock ?_ | exact NP.body)) (by kernel_rfl) rfl rfl rfl (fun R _ => Ev.not (.mk rfl)) (by kernel_rfl) rfl ?_
       refine SW.slot 94 _ rfl (gv_true rfl _) ?_
       refine SW.defer 20 (by repeat (first | refine NP.then ?_ | refine NP.inBlock ?_ | exact NP.body)) (by kernel_rfl) rfl (fun R => Ev.pickf (.mk rfl) rfl (.mk rfl)) (by kernel_rfl) rfl ?_
       refine SW.done (by kernel_rfl) ?_
       refine St.then_normal ?_
       refine St.cond _ rfl (fun h95 => ?_) (fun h95 => ?_)
       ·skip
        skip
        simp only [jbAll] at h95
        have hno : b1 = true → b2 = true → ∀ p q, (simE s1).args = [p, q] → sameS p (simE s2) = true → False := fun _ _ p1 q1 e hs => by rw [simE_args, hpq] at e; cases e; rw [hpq] at h95; exact absurd (h95.symm.trans hs) (by decide)
        refine St.seq (St.rg ?_)
        refine St.ev _ (Ev.build (ps := []) (Opds.nil) (fun w => bld77_  w)) rfl ?_
        refine St.storeA (Opd.mk rfl) (Opd.mk rfl) sz77 (by first | simp only [List.length_cons, List.length_nil] | rfl) (by simp only [List.all_cons, List.all_nil, Bool.and_true, Bool.and_eq_true]; exact ⟨rfl, rfl⟩) ?_
        refine St.asg ?_
        refine St.nil (St.then_normal (St.rett (St.then_ret ?_)))
        refine St.slNil simR ?_
        refine St.dallNil simD ?_
        refine St.mkSim [] (.slice none 0 0) rfl [] ?_
        refine St.rets [_, _] [dat (simD simN)] Tryd.results71 ⟨⟨_, _, _, _, rfl, InB.mem, .inl ⟨⟨_, Tryd.underlying77⟩, sz77, rfl⟩⟩, ⟨rfl, trivial⟩⟩ ?_ (fun _ hw => hw.sub)
        exact ⟨simN, false, rfl, Nat.zero_le _, ((fun hb => by cases hb)), (fun _ => by rw [hsw]; exact typ4_none hs1t hs1f hs2t hs2f hno), rfl⟩
       ·skip
        skip
        simp only [jbAll] at h95 hs77 hs81
        rw [hpq] at h95
        refine St.dallAt simD s1.args (x := q) (by rw [hpq]; simp) ?_
        refine St.skip (St.then_normal (St.seq (St.rg ?_)))
        refine St.ev _ (Ev.fldb0 (.mk rfl) fo77_1) rfl ?_
        refine St.ev _ (Ev.ldb (.mk rfl) Tryd.underlying75 trivial (by rfl)) rfl ?_
        refine St.ev _ (Ev.idxaddr (k := 1) (.mk rfl) (.mk rfl) Tryd.underlying75 sz77 rfl (by omega)) rfl ?_
        refine St.ev _ (Ev.ldA (.mk rfl) (show s1.args[1]? = some q by rw [hpq]; rfl) Tryd.underlying77 trivial sz77 Cel.eq) rfl ?_
        refine St.storeA (Opd.mk rfl) (Opd.mk rfl) sz77 (by first | simp only [List.length_cons, List.length_nil] | rfl) (by simp only [List.all_cons, List.all_nil, Bool.and_true, Bool.and_eq_true]; exact ⟨rfl, q.av.2⟩) ?_
        refine St.asg ?_
        refine St.nil (St.then_normal (St.rett ?_))
        refine St.rets [_, _] [dat (simD q)] Tryd.results71 ⟨⟨_, _, _, _, rfl, InB.mem, .inl ⟨⟨_, Tryd.underlying77⟩, sz77, rfl⟩⟩, ⟨rfl, trivial⟩⟩ ?_ (fun _ hw => hw.sub)
        exact ⟨q, true, rfl, hpw q (by rw [hpq]; simp), (fun _ => by rw [hsw, hs1t hs77, hs2t hs81]; exact appT_some (by rw [simE_args, hpq]; rfl) h95), ((fun hb => by cases hb)), rfl⟩
end Go.Proofs.YtolmidffiegkaaaDoor

/-
  (YtolmidffiegkaaaDoorQ10)
  The walk of the check of terms.
  Conditions: none beyond the sizes.
-/
set_option maxRecDepth 20000
set_option linter.unusedSimpArgs false
set_option linter.unusedVariables false
namespace Go.Proofs.YtolmidffiegkaaaDoor
open Go Go.J
theorem termF_bad {t : Tm0} (h : (tmW t 1 0 0).2.1 ≠ 0) : termF t = (tmW t 1 0 0).2 := by unfold termF; rw [if_pos h]
theorem termF_none {t : Tm0} (h : ¬ (tmW t 1 0 0).2.1 ≠ 0) (h2 : typT t [] = none) : termF t = (12, -1) := by unfold termF; rw [if_neg h, h2]; rfl
theorem termF_ok {t : Tm0} {s : Sm0} (h : ¬ (tmW t 1 0 0).2.1 ≠ 0) (h2 : typT t [] = some s) : termF t = (0, 0) := by unfold termF; rw [if_neg h, h2, if_neg (by simp)]
theorem termVal_spec (x : TermD) (hw : termR.wf x) : FnV Tryd.prog 55 #[termV x] [termD x] (fv (termF (termE x))) := by
 refine FnV.body1 (args := [termV x]) 25 Tryd.func55 rfl Tryd.ntmps55 rfl (fun c => ?_)
 refine St.seq (St.rg ?_)
 refine St.boxA (.mk rfl) rfl (fun b1 => ?_)
 refine St.alloc zc42 rfl (fun b2 => ?_)
 refine St.nil (St.then_normal (St.seq (St.rg ?_)))
 refine St.alloc zc3 rfl (fun b3 => ?_)
 refine St.store1 (.mk rfl) (.mk rfl) sz3 rfl (by rfl) ?_
 refine St.blkEq b3 (L' := [iv ((0 : Nat) : Int)]) rfl ?_
 refine St.nil (St.then_normal (St.seq (St.rg ?_)))
 refine St.alloc zc141 rfl (fun b4 => ?_)
 refine St.nil (St.then_normal (St.seq (St.rg ?_)))
 refine St.ev _ (Ev.func (.cons (.mk rfl) (.cons (.mk rfl) .nil))) rfl ?_
 refine St.store1 (.mk rfl) (.mk rfl) sz141 rfl (by rfl) ?_
 refine St.nil (St.then_normal (St.seq (St.seq ?_)))
 refine St.mkD (termD x) [termD x] (fun ρ h => h _ (List.mem_cons_self ..)) ?_
 refine St.rg ?_
 refine St.ev _ (Ev.ldb (.mk rfl) Tryd.underlying141 trivial (by rfl)) rfl ?_
 refine St.ev _ (Ev.ldbA (.mk rfl) Tryd.underlying80 trivial (by exact sz80)) rfl ?_
 refine St.callc (termWalk_spec b3 b4 141 x 1 0 0 hw (by omega) (by omega) (by omega)) cb67 (.mk rfl) (.cons (.mk rfl) (.cons (.mk rfl) (.cons (.mk rfl) .nil))) rfl ?_
 rintro v11 _ ⟨rfl, rfl⟩
 refine St.app2 ?_
 refine St.alloc zc42 rfl (fun b5 => ?_)
 refine St.storeA (Opd.mk rfl) (Opd.mk rfl) sz42 (by first | simp only [List.length_cons, List.length_nil] | rfl) rfl ?_
 refine St.nil (St.then_normal (St.seq (St.rg ?_)))
 refine St.ev _ (Ev.fldb0 (.mk rfl) fo42_0) rfl ?_
 refine St.ev _ (Ev.ldb (.mk rfl) Tryd.underlying3 trivial (by rfl)) rfl ?_
 refine St.ev _ (Ev.neq (.mk rfl) (.mk rfl)) rfl ?_
 refine St.nil (St.then_normal ?_)
 refine St.cond _ rfl (fun h14 => ?_) (fun h14 => ?_)
 ·skip
  skip
  have hb : (tmW (termE x) 1 0 0).2.1 ≠ 0 := by simpa using h14
  refine St.seq (St.rg ?_)
  refine St.ev _ (Ev.ldbA (.mk rfl) Tryd.underlying42 trivial (by exact sz42)) rfl ?_
  refine St.storeA (Opd.mk rfl) (Opd.mk rfl) sz42 (by first | simp only [List.length_cons, List.length_nil] | rfl) rfl ?_
  refine St.nil (St.then_normal (St.rett (St.then_ret ?_)))
  refine St.rets [_] [] Tryd.results55 ⟨⟨_, _, _, _, rfl, InB.mem, .inl ⟨⟨_, Tryd.underlying42⟩, sz42, rfl⟩⟩, trivial⟩ ?_ (fun _ hw => hw.sub)
  exact congrArg fv (termF_bad hb).symm
 ·skip
  skip
  have hb : ¬ (tmW (termE x) 1 0 0).2.1 ≠ 0 := by simpa using h14
  refine St.slNil simR ?_
  refine St.dallNil simD ?_
  refine St.skip (St.then_normal (St.seq (St.seq (St.rg ?_))))
  refine St.ev _ (Ev.ldbA (.mk rfl) Tryd.underlying80 trivial (by exact sz80)) rfl ?_
  refine St.calld (typed_spec x [] (.slice none 0 0) 1 (tmW_good _ _ _ _ (Decidable.not_not.1 hb)) hw (Nat.zero_le _)) cb71 (.cons (.mk rfl) (.cons (.mk rfl) .nil)) rfl ?_
  rintro v18 _ ⟨s, b, rfl, hsw, hst, hsf, rfl⟩
  refine St.app1 ?_
  refine St.mv ?_
  refine St.ev _ (Ev.extract (.mk rfl) rfl) rfl ?_
  refine St.ev _ (Ev.extract (.mk rfl) rfl) rfl ?_
  refine St.alloc zc77 rfl (fun b6 => ?_)
  refine St.storeA (Opd.mk rfl) (Opd.mk rfl) sz77 (by first | simp only [List.length_cons, List.length_nil] | rfl) (by simp only [List.all_cons, List.all_nil, Bool.and_true, Bool.and_eq_true]; exact ⟨rfl, s.av.2⟩) ?_
  refine St.asg ?_
  refine St.nil (St.then_normal (St.seq (St.rg ?_)))
  refine St.mv ?_
  refine St.ev _ (Ev.not (.mk rfl)) rfl ?_
  refine St.nil (St.then_normal ?_)
  refine St.cond _ rfl (fun h22 => ?_) (fun h22 => ?_)
  ·skip
   try simp only [jbAll] at h22
   refine St.seq (St.rg ?_)
   refine St.ev _ (Ev.build (ps := [(0, (.const (.int .i64 12))), (1, (.const (.int .i64 (-1))))]) (Opds.cons (Opd.mk rfl) (Opds.cons (Opd.mk rfl) Opds.nil)) (fun w => bld42_0_1 rfl rfl w)) rfl ?_
   refine St.storeA (Opd.mk rfl) (Opd.mk rfl) sz42 (by first | simp only [List.length_cons, List.length_nil] | rfl) rfl ?_
   refine St.nil (St.then_normal (St.rett (St.then_ret ?_)))
   refine St.rets [_] [] Tryd.results55 ⟨⟨_, _, _, _, rfl, InB.mem, .inl ⟨⟨_, Tryd.underlying42⟩, sz42, rfl⟩⟩, trivial⟩ ?_ (fun _ hw => hw.sub)
   exact congrArg fv (termF_none hb (hsf (by simpa using h22))).symm
  ·skip
   try simp only [jbAll] at h22
   refine St.skip (St.then_normal (St.seq (St.rg ?_)))
   refine St.ev _ (Ev.build (ps := []) (Opds.nil) (fun w => bld42_  w)) rfl ?_
   refine St.storeA (Opd.mk rfl) (Opd.mk rfl) sz42 (by first | simp only [List.length_cons, List.length_nil] | rfl) rfl ?_
   refine St.nil (St.then_normal (St.rett ?_))
   refine St.rets [_] [] Tryd.results55 ⟨⟨_, _, _, _, rfl, InB.mem, .inl ⟨⟨_, Tryd.underlying42⟩, sz42, rfl⟩⟩, trivial⟩ ?_ (fun _ hw => hw.sub)
   exact congrArg fv (termF_ok hb (hst (by simpa using h22))).symm
end Go.Proofs.YtolmidffiegkaaaDoor

/-
  (YtolmidffiegkaaaDoorHierP)
  Which types are above which: by bits, by steps, by marks.
  Conditions: none.
-/
namespace Go.Proofs.YtolmidffiegkaaaDoor
open Go Go.J
theorem upsGo_len : ∀ (l : List Ty0) (U : List Nat), (upsGo U l).length = U.length + l.length
 | [], U => rfl
 | t :: l, U => by rw [upsGo, upsGo_len l]; simp; omega
theorem ups_len (l : List Ty0) : (ups l).length = l.length := by unfold ups; rw [upsGo_len]; simp
theorem upsGo_append : ∀ (l m : List Ty0) (U : List Nat), upsGo U (l ++ m) = upsGo (upsGo U l) m
 | [], _, _ => rfl
 | t :: l, m, U => by rw [List.cons_append, upsGo, upsGo, upsGo_append l m]
theorem upsGo_pre : ∀ (l : List Ty0) (U : List Nat) (i : Nat), i < U.length → (upsGo U l)[i]? = U[i]?
 | [], _, _, _ => rfl
 | t :: l, U, i, h => by rw [upsGo, upsGo_pre l _ i (by simp; omega), List.getElem?_append_left h]
theorem ups_snoc (l : List Ty0) (t : Ty0) : ups (l ++ [t]) = ups l ++ [upOf (ups l) l.length t.2] := by
 unfold ups; rw [upsGo_append, upsGo, upsGo, upsGo_len]; simp
theorem ups_take (l : List Ty0) (k i : Nat) (h : i < k) (hk : k ≤ l.length) : (ups (l.take k)).getD i 0 = (ups l).getD i 0 := by
 have e : ups l = upsGo (ups (l.take k)) (l.drop k) := by unfold ups; rw [← upsGo_append, List.take_append_drop]
 rw [e, List.getD_eq_getElem?_getD, List.getD_eq_getElem?_getD, upsGo_pre _ _ _ (by rw [ups_len, List.length_take]; omega)]
theorem ups_at {l : List Ty0} {k : Nat} {t : Ty0} (h : l[k]? = some t) : (ups l).getD k 0 = upOf (ups (l.take k)) k t.2 := by
 have hk := lt_of_some h
 rw [← ups_take l (k + 1) k (Nat.lt_succ_self _) hk, take_of_some h, ups_snoc]
 have e : (l.take k).length = k := by rw [List.length_take]; omega
 rw [List.getD_eq_getElem?_getD, List.getElem?_append_right (by rw [ups_len, e]; exact Nat.le_refl _), ups_len, e, Nat.sub_self]
 rfl
theorem fold_or (g : Int → Nat) (j : Nat) : ∀ (ps : List Int) (u : Nat), (ps.foldl (fun u p => u ||| g p) u).testBit j = (u.testBit j || ps.any fun p => (g p).testBit j)
 | [], u => by simp
 | p :: ps, u => by rw [List.foldl_cons, fold_or g j ps, Nat.testBit_or, List.any_cons, Bool.or_assoc]
theorem upOf_bit (U : List Nat) (i : Nat) (ps : List Int) (j : Nat) : (upOf U i ps).testBit j = (decide (i = j) || ps.any fun p => (U.getD p.toNat 0).testBit j) := by
 unfold upOf; rw [fold_or, Nat.testBit_two_pow]
structure TyOK (l : List Ty0) : Prop where
 len : l.length ≤ 60
 par : ∀ (i : Nat) (t : Ty0), l[i]? = some t → ∀ p ∈ t.2, 0 ≤ p ∧ p < i
theorem parF_ok {i : Int} : ∀ {ps : List Int} {last : Int}, (parF i last ps).1 = 0 → parF i last ps = (0, 0) ∧ ∀ p ∈ ps, 0 ≤ p ∧ p < i
 | [], _, _ => ⟨rfl, fun p h => by cases h⟩
 | p :: ps, last, h => by
  rw [parF] at h ⊢
  by_cases h1 : p < 0 ∨ i ≤ p
  ·rw [if_pos h1] at h; exact absurd h (by simp)
  ·rw [if_neg h1] at h ⊢
   by_cases h2 : p ≤ last
   ·rw [if_pos h2] at h; exact absurd h (by simp)
   ·rw [if_neg h2] at h ⊢
    obtain ⟨e, k⟩ := parF_ok h
    refine ⟨e, fun q hq => ?_⟩
    rcases List.mem_cons.1 hq with rfl | hq
    ·omega
    ·exact k q hq
theorem tyFrom_ok : ∀ {l : List Ty0} {known : List Str} {i : Nat}, (tyFrom known i l).1 = 0 → tyFrom known i l = (0, 0) ∧ ∀ (k : Nat) (t : Ty0), l[k]? = some t → ∀ p ∈ t.2, 0 ≤ p ∧ p < (i + k : Nat)
 | [], _, _, _ => ⟨rfl, fun k t h => by simp at h⟩
 | t :: l, known, i, h => by
  rw [tyFrom] at h ⊢
  by_cases h1 : isName t.1 = false
  ·rw [if_pos h1] at h; exact absurd h (by simp)
  rw [if_neg h1] at h ⊢
  by_cases h2 : t.1 ∈ known
  ·rw [if_pos h2] at h; exact absurd h (by simp)
  rw [if_neg h2] at h ⊢
  by_cases h3 : decide (i = 0) ≠ decide (t.2.length = 0)
  ·rw [if_pos h3] at h; exact absurd h (by simp)
  rw [if_neg h3] at h ⊢
  by_cases h4 : (parF i (-1) t.2).1 ≠ 0
  ·rw [if_pos h4] at h; exact absurd h h4
  rw [if_neg h4] at h ⊢
  obtain ⟨e, k⟩ := tyFrom_ok h
  refine ⟨e, fun j u hj => ?_⟩
  cases j with
  | zero =>
   simp only [List.getElem?_cons_zero, Option.some.injEq] at hj
   subst hj
   intro p hp
   have := (parF_ok (Decidable.not_not.1 h4)).2 p hp
   omega
  | succ j =>
   rw [List.getElem?_cons_succ] at hj
   intro p hp
   have := k j u hj p hp
   omega
theorem tyF_ok {l : List Ty0} (h : (tyF l).1 = 0) : tyF l = (0, 0) ∧ 0 < l.length ∧ TyOK l := by
 unfold tyF at h ⊢
 by_cases h1 : l.length = 0 ∨ 60 < l.length
 ·rw [if_pos h1] at h; exact absurd h (by simp)
 ·rw [if_neg h1] at h ⊢
  obtain ⟨e, k⟩ := tyFrom_ok h
  refine ⟨e, by omega, by omega, fun i t hi p hp => ?_⟩
  have := k i t hi p hp
  omega
section
variable {l : List Ty0}
theorem sub_out {i : Nat} (hi : l.length ≤ i) (j : Nat) : subT l i j = false := by
 unfold subT
 rw [List.getD_eq_getElem?_getD, List.getElem?_eq_none (by rw [ups_len]; exact hi)]
 exact Nat.zero_testBit _
theorem sub_lt {i j : Nat} (h : subT l i j = true) : i < l.length := by
 rcases Nat.lt_or_ge i l.length with k | k
 ·exact k
 ·rw [sub_out k] at h; cases h
theorem sub_step (hl : TyOK l) {i : Nat} {t : Ty0} (hi : l[i]? = some t) (j : Nat) : subT l i j = (decide (i = j) || t.2.any fun p => subT l p.toNat j) := by
 show ((ups l).getD i 0).testBit j = _
 rw [ups_at hi, upOf_bit]
 congr 1
 rw [Bool.eq_iff_iff, List.any_eq_true, List.any_eq_true]
 have e : ∀ p ∈ t.2, (ups (l.take i)).getD p.toNat 0 = (ups l).getD p.toNat 0 := fun p hp => by
  have := hl.par i t hi p hp
  exact ups_take l i _ (by omega) (Nat.le_of_lt (lt_of_some hi))
 constructor
 ·rintro ⟨p, hp, h⟩; rw [e p hp] at h; exact ⟨p, hp, h⟩
 ·rintro ⟨p, hp, h⟩; exact ⟨p, hp, by rw [e p hp]; exact h⟩
theorem sub_self (hl : TyOK l) {i : Nat} (hi : i < l.length) : subT l i i = true := by
 rw [sub_step hl (List.getElem?_eq_getElem hi)]; simp
theorem sub_cases (hl : TyOK l) {i j : Nat} (h : subT l i j = true) : i = j ∨ ∃ t p, l[i]? = some t ∧ p ∈ t.2 ∧ 0 ≤ p ∧ p < i ∧ subT l p.toNat j = true := by
 have hi := sub_lt h
 rw [sub_step hl (List.getElem?_eq_getElem hi)] at h
 simp only [Bool.or_eq_true, decide_eq_true_eq, List.any_eq_true] at h
 rcases h with h | ⟨p, hp, h⟩
 ·exact .inl h
 ·have := hl.par i _ (List.getElem?_eq_getElem hi) p hp
  exact .inr ⟨_, p, List.getElem?_eq_getElem hi, hp, this.1, this.2, h⟩
theorem sub_le (hl : TyOK l) : ∀ {i j : Nat}, subT l i j = true → j ≤ i := by
 intro i
 induction i using Nat.strongRecOn with
 | ind i ih =>
  intro j h
  rcases sub_cases hl h with rfl | ⟨t, p, _, _, h0, h1, h2⟩
  ·exact Nat.le_refl _
  ·have := ih p.toNat (by omega) h2
   omega
theorem sub_trans (hl : TyOK l) : ∀ {i j k : Nat}, subT l i j = true → subT l j k = true → subT l i k = true := by
 intro i
 induction i using Nat.strongRecOn with
 | ind i ih =>
  intro j k h1 h2
  rcases sub_cases hl h1 with rfl | ⟨t, p, ht, hp, h0, hlt, h3⟩
  ·exact h2
  ·have := ih p.toNat (by omega) h3 h2
   rw [sub_step hl ht]
   simp only [Bool.or_eq_true, List.any_eq_true]
   exact .inr ⟨p, hp, this⟩
theorem sub_last (hl : TyOK l) : ∀ {i j : Nat}, subT l i j = true → i ≠ j → ∃ z t, subT l i z = true ∧ l[z]? = some t ∧ (j : Int) ∈ t.2 ∧ j < z := by
 intro i
 induction i using Nat.strongRecOn with
 | ind i ih =>
  intro j h hne
  rcases sub_cases hl h with e | ⟨t, p, ht, hp, h0, hlt, h3⟩
  ·exact absurd e hne
  ·by_cases e : p.toNat = j
   ·have e' : p = (j : Int) := by omega
    subst e'
    exact ⟨i, t, sub_self hl (lt_of_some ht), ht, hp, by omega⟩
   ·obtain ⟨z, u, h4, h5, h6, h7⟩ := ih p.toNat (by omega) h3 e
    refine ⟨z, u, ?_, h5, h6, h7⟩
    rw [sub_step hl ht]
    simp only [Bool.or_eq_true, List.any_eq_true]
    exact .inr ⟨p, hp, h4⟩
structure MkOK (l : List Ty0) (a i : Nat) (M : List Bool) : Prop where
 len : M.length = l.length
 snd : ∀ x, M[x]? = some true → subT l a x = true
 top : M[a]? = some true
 cls : ∀ (y : Nat) (t : Ty0), i < y → M[y]? = some true → l[y]? = some t → ∀ p ∈ t.2, M[p.toNat]? = some true
theorem MkOK.start (hl : TyOK l) {a : Nat} (ha : a < l.length) : MkOK l a a ((List.replicate l.length false).set a true) := by
 refine ⟨by simp, fun x hx => ?_, by rw [List.getElem?_set_self (by simp; exact ha)], fun y t hy hm _ => ?_⟩
 ·by_cases e : a = x
  ·subst e; exact sub_self hl ha
  ·rw [List.getElem?_set_ne e, List.getElem?_replicate] at hx
   split at hx <;> simp at hx
 ·rw [List.getElem?_set_ne (by omega), List.getElem?_replicate] at hm
  split at hm <;> simp at hm
theorem MkOK.done (hl : TyOK l) {a b : Nat} {M : List Bool} (h : MkOK l a b M) : ∀ (n y : Nat), a - y = n → b ≤ y → subT l a y = true → M[y]? = some true := by
 intro n
 induction n using Nat.strongRecOn with
 | ind n ih =>
  intro y hn hy hs
  by_cases e : a = y
  ·subst e; exact h.top
  ·obtain ⟨z, t, h1, h2, h3, h4⟩ := sub_last hl hs e
   have hz := sub_le hl h1
   have := ih (a - z) (by omega) z rfl (by omega) h1
   have := h.cls z t (by omega) this h2 _ h3
   simpa using this
theorem MkOK.fin (hl : TyOK l) {a b : Nat} {M : List Bool} (h : MkOK l a b M) (hb : b < l.length) : M[b]? = some (subT l a b) := by
 cases e : subT l a b with
 | true => exact h.done hl _ b rfl (Nat.le_refl _) e
 | false =>
  have hlt : b < M.length := by rw [h.len]; exact hb
  rw [List.getElem?_eq_getElem hlt]
  cases e2 : M[b] with
  | false => rfl
  | true =>
   have := h.snd b (by rw [List.getElem?_eq_getElem hlt, e2])
   rw [e] at this; cases this
structure MkIn (l : List Ty0) (a i : Nat) (t : Ty0) (k : Nat) (M : List Bool) : Prop where
 ok : MkOK l a i M
 at_ : M[i]? = some true
 upto : ∀ p ∈ t.2.take k, M[p.toNat]? = some true
theorem MkIn.step (hl : TyOK l) {a i k : Nat} {t : Ty0} {M : List Bool} {p : Int} (h : MkIn l a i t k M) (hi : l[i]? = some t) (hp : t.2[k]? = some p) : MkIn l a i t (k + 1) (M.set p.toNat true) := by
 have hpm := hl.par i t hi p (List.mem_of_getElem? hp)
 have hil := lt_of_some hi
 have mono : ∀ x, M[x]? = some true → (M.set p.toNat true)[x]? = some true := fun x hx => by
  by_cases e : p.toNat = x
  ·subst e; rw [List.getElem?_set_self (lt_of_some hx)]
  ·rw [List.getElem?_set_ne e]; exact hx
 refine ⟨⟨by rw [List.length_set]; exact h.ok.len, fun x hx => ?_, mono _ h.ok.top, fun y u hy hm hu q hq => ?_⟩, mono _ h.at_, fun q hq => ?_⟩
 ·by_cases e : p.toNat = x
  ·subst e
   refine sub_trans hl (h.ok.snd i h.at_) ?_
   rw [sub_step hl hi]
   simp only [Bool.or_eq_true, List.any_eq_true]
   exact .inr ⟨p, List.mem_of_getElem? hp, sub_self hl (by omega)⟩
  ·rw [List.getElem?_set_ne e] at hx; exact h.ok.snd x hx
 ·rw [List.getElem?_set_ne (by omega)] at hm
  exact mono _ (h.ok.cls y u hy hm hu q hq)
 ·rw [take_of_some hp] at hq
  rcases List.mem_append.1 hq with hq | hq
  ·exact mono _ (h.upto q hq)
  ·rw [List.mem_singleton.1 hq, List.getElem?_set_self (by rw [h.ok.len]; omega)]
theorem MkIn.done {a i : Nat} {t : Ty0} {M : List Bool} (h : MkIn l a (i + 1) t t.2.length M) (hi : l[i + 1]? = some t) : MkOK l a i M :=
 ⟨h.ok.len, h.ok.snd, h.ok.top, fun y u hy hm hu q hq => by
  by_cases e : y = i + 1
  ·subst e
   rw [hi] at hu; cases hu
   exact h.upto q (by rw [List.take_length]; exact hq)
  ·exact h.ok.cls y u (by omega) hm hu q hq⟩
end
end Go.Proofs.YtolmidffiegkaaaDoor

/-
  (YtolmidffiegkaaaDoorQ11)
  The walk of the check of types.
  Conditions: none beyond the sizes.
-/
set_option maxRecDepth 20000
set_option linter.unusedSimpArgs false
set_option linter.unusedVariables false
namespace Go.Proofs.YtolmidffiegkaaaDoor
open Go Go.J
theorem tyFrom_drop {l : List Ty0} {k : Nat} {t : Ty0} (ht : l[k]? = some t) (known : List Str) : tyFrom known k (l.drop k) = if isName t.1 = false then (10, (k : Int)) else if t.1 ∈ known then (7, (k : Int)) else if decide (k = 0) ≠ decide (t.2.length = 0) then (5, (k : Int))
  else if (parF k (-1) t.2).1 ≠ 0 then parF k (-1) t.2 else tyFrom (known ++ [t.1]) (k + 1) (l.drop (k + 1)) := by rw [drop_of_some ht, tyFrom]
theorem tyFrom_end {l : List Ty0} {k : Nat} (h : l.length ≤ k) (known : List Str) : tyFrom known k (l.drop k) = (0, 0) := by rw [List.drop_of_length_le h, tyFrom]
theorem parF_drop {i z p : Int} {ps : List Int} {q : Nat} (hp : ps[q]? = some p) : parF i z (ps.drop q) = if p < 0 ∨ i ≤ p then (3, i) else if p ≤ z then (13, i) else parF i p (ps.drop (q + 1)) := by rw [drop_of_some hp, parF]
theorem parF_end {i z : Int} {ps : List Int} {q : Nat} (h : ps.length ≤ q) : parF i z (ps.drop q) = (0, 0) := by rw [List.drop_of_length_le h, parF]
def KnM (m : List (Str × Value)) (known : List Str) : Prop := ∀ s, (mget m s).isSome = decide (s ∈ known)
theorem KnM.nil : KnM [] [] := fun s => by simp [mget]
theorem KnM.snoc {m : List (Str × Value)} {known : List Str} (h : KnM m known) (s : Str) (v : Value) : KnM (mset m s v) (known ++ [s]) := fun s' => by
 rw [mget_set]
 by_cases e : s' = s
 ·subst e; simp
 ·rw [if_neg e, h s', decide_eq_decide]; simp [e]
theorem map_take_snoc {α β : Type} (f : α → β) {l : List α} {k : Nat} {x : α} (h : l[k]? = some x) : (l.take (k + 1)).map f = (l.take k).map f ++ [f x] := by rw [take_of_some h, List.map_append]; rfl
set_option maxHeartbeats 1000000 in
theorem Types_spec (u : Value) (ts : List TyD) : FnV Tryd.prog 52 #[u] [sl tyR u ts, dall tyD ts] (fv (tyF (ts.map tyE))) := by
 refine FnV.body2 (args := [u]) 82 Tryd.func52 rfl Tryd.ntmps52 rfl (fun c => ?_)
 refine St.seq ?_
 refine St.wf u (fun htw htl => ?_)
 refine St.rg ?_
 refine St.alloc zc42 rfl (fun b2 => ?_)
 refine St.nil (St.then_normal (St.seq (St.seq (St.rg ?_))))
 refine St.mv ?_
 refine St.ev _ (Ev.lensl (.mk rfl) Tryd.underlying22) rfl ?_
 refine St.ev _ (Ev.eql (.mk rfl) (.mk rfl)) rfl ?_
 refine St.mv ?_
 refine St.gf _ rfl rfl (fun hg => Ev.move (.mk rfl)) rfl ?_
 refine St.gf _ rfl rfl (fun hg => Ev.lensl (Opd.gv rfl hg) Tryd.underlying22) rfl ?_
 refine St.gf _ rfl rfl (fun hg => Ev.gtr (Opd.gv rfl hg) (.mk rfl)) rfl ?_
 refine St.ev _ (Ev.or (.mk rfl) (fun hp => Opd.gv rfl hp)) rfl ?_
 refine St.nil (St.then_normal ?_)
 refine St.cond _ rfl (fun h18 => ?_) (fun h18 => ?_)
 ·skip
  try simp only [jbAll] at h18
  have hf : tyF (ts.map tyE) = (2, -1) := by unfold tyF; rw [if_pos (by rw [List.length_map]; omega)]
  refine St.seq (St.rg ?_)
  refine St.ev _ (Ev.call (hierarchyFault_spec 2 (-1)) cb51 (.cons (.mk rfl) (.cons (.mk rfl) .nil))) rfl ?_
  refine St.storeA (Opd.mk rfl) (Opd.mk rfl) sz42 (by first | simp only [List.length_cons, List.length_nil] | rfl) rfl ?_
  refine St.nil (St.then_normal (St.rett (St.then_ret ?_)))
  refine St.rets [_] [] Tryd.results52 ⟨⟨_, _, _, _, rfl, InB.mem, .inl ⟨⟨_, Tryd.underlying42⟩, sz42, rfl⟩⟩, trivial⟩ ?_ (fun _ hw => hw.sub)
  exact congrArg fv hf.symm
 ·skip
  try simp only [jbAll] at h18
  have hf : tyF (ts.map tyE) = tyFrom [] 0 (ts.map tyE) := by unfold tyF; rw [if_neg (by rw [List.length_map]; omega)]
  refine St.skip (St.then_normal (St.seq (St.rg ?_)))
  refine St.makeMap mkStr rfl (fun b20 => ?_)
  refine St.asg ?_
  refine St.nil (St.then_normal (St.seq (St.seq (St.rg ?_))))
  refine St.mv ?_
  refine St.ev _ (Ev.lensl (.mk rfl) Tryd.underlying22) rfl ?_
  refine St.mv ?_
  refine St.nil (St.then_normal (St.block ?_))
  refine St.loopH2 (ι := Nat) (κ := List (Str × Value)) (fun k m T => (23, iv k) :: T) (fun k m => [blk b20 (mobj mkStr m), blk b2 (.cells [iv 0, iv 0].toArray 42 (0, 0)), dat (sl tyR u ts), dat (dall tyD ts)]) (fun k m => k ≤ ts.length ∧ tyF (ts.map tyE) = tyFrom ((ts.take k).map TyD.name) k ((ts.map tyE).drop k) ∧ KnM m ((ts.take k).map TyD.name)) (fun k m => ts.length - k) 0 [] (Keep.cons 2 rfl (Keep.cons 3 rfl (Keep.cons 21 rfl (Keep.cons 22 rfl Keep.nil)))) ⟨Nat.zero_le _, hf, KnM.nil⟩ (by repeat (first | exact Sub.nil | refine Sub.cons (by first | rfl | exact congrArg (fun z => some (iv z)) (by first | omega | (dsimp only; omega)) | exact congrArg (fun z => some (Value.bool z)) (by first | assumption | exact Eq.symm (by assumption))) ?_)) (fun _ hw => hw.sub) ?_
  rintro k m ⟨hk, hv, hkn⟩
  refine St.seq (St.rg ?_)
  refine St.ev _ (Ev.lss (.mk rfl) (.mk rfl)) rfl ?_
  refine St.nil (St.then_normal (St.seq ?_))
  refine St.cond _ rfl (fun h24 => ?_) (fun h24 => ?_)
  ·skip
   try simp only [jbAll] at h24
   obtain ⟨t, ht⟩ := some_of_lt (show k < ts.length by omega)
   have htm := List.mem_of_getElem? ht
   have hst := tyFrom_drop (l := ts.map tyE) (k := k) (t := tyE t) (by rw [List.getElem?_map, ht]; rfl) ((ts.take k).map TyD.name)
   rw [← hv] at hst
   have hnl : t.name.length ≤ 9223372036854775807 := by have := htw t htm; simp only [tyR, slen] at this; omega
   refine St.dallAt tyD ts (x := t) htm ?_
   refine St.mkD (sl intR t.pv.1 t.parents) [tyD t] (fun ρ h => h _ (List.mem_cons_self ..)) ?_
   refine St.wf t.pv.1 (fun hpw hpl => ?_)
   refine St.skip (St.then_normal (St.seq (St.block (St.seq (St.rg ?_)))))
   refine St.mv ?_
   refine St.ev _ (Ev.idxaddr (k := k) (.mk rfl) (.mk rfl) Tryd.underlying22 sz113 (by omega) (by omega)) rfl ?_
   refine St.ev _ (Ev.ldA (.mk rfl) ht Tryd.underlying113 trivial sz113 Cel.eq) rfl ?_
   refine St.alloc zc113 rfl (fun b5 => ?_)
   refine St.asg ?_
   refine St.storeA (Opd.mk rfl) (Opd.mk rfl) sz113 (by first | simp only [List.length_cons, List.length_nil] | rfl) (by simp only [List.all_cons, List.all_nil, Bool.and_true, Bool.and_eq_true]; exact ⟨rfl, t.pv.2⟩) ?_
   refine St.nil (St.then_normal (St.seq (St.seq (St.rg ?_))))
   refine St.ev _ (Ev.fldb0 (.mk rfl) fo113_0) rfl ?_
   refine St.ev _ (Ev.ldb (.mk rfl) Tryd.underlying9 trivial (by rfl)) rfl ?_
   refine St.ev _ (Ev.call (Name_spec t.name hnl) cb40 (.cons (.mk rfl) .nil)) rfl ?_
   refine St.ev _ (Ev.not (.mk rfl)) rfl ?_
   refine St.nil (St.then_normal ?_)
   refine St.cond _ rfl (fun h31 => ?_) (fun h31 => ?_)
   ·skip
    try simp only [jbAll] at h31
    rw [if_pos (show isName (tyE t).1 = false from (by simpa using h31 : isName t.name = false))] at hst
    refine St.seq (St.rg ?_)
    refine St.mv ?_
    refine St.ev _ (Ev.call (hierarchyFault_spec 10 k) cb51 (.cons (.mk rfl) (.cons (.mk rfl) .nil))) rfl ?_
    refine St.storeA (Opd.mk rfl) (Opd.mk rfl) sz42 (by first | simp only [List.length_cons, List.length_nil] | rfl) rfl ?_
    refine St.nil (St.then_normal (St.rett (St.then_ret (St.in_ret (St.then_ret (St.then_ret (St.in_ret (St.then_ret ?_))))))))
    refine St.rets [_] [] Tryd.results52 ⟨⟨_, _, _, _, rfl, InB.mem, .inl ⟨⟨_, Tryd.underlying42⟩, sz42, rfl⟩⟩, trivial⟩ ?_ (fun _ hw => hw.sub)
    exact congrArg fv hst.symm
   ·skip
    try simp only [jbAll] at h31
    rw [if_neg (show ¬ isName (tyE t).1 = false from (by simpa using h31 : ¬ isName t.name = false))] at hst
    refine St.skip (St.then_normal (St.seq (St.seq (St.rg ?_))))
    refine St.mv ?_
    refine St.ev _ (Ev.fldb0 (.mk rfl) fo113_0) rfl ?_
    refine St.ev _ (Ev.ldb (.mk rfl) Tryd.underlying9 trivial (by rfl)) rfl ?_
    refine St.ev _ (Ev.lookup2 mkStr (k := t.name) (.mk rfl) (.mk rfl) Tryd.underlying104 (by exact Tryd.underlying9) zv3) rfl ?_
    refine St.mv ?_
    refine St.ev _ (Ev.extract (.mk rfl) rfl) rfl ?_
    refine St.ev _ (Ev.extract (.mk rfl) rfl) rfl ?_
    refine St.slot 40 (.bool (decide (t.name ∈ (ts.take k).map TyD.name))) rfl (congrArg Value.bool (hkn t.name)) ?_
    refine St.asg ?_
    refine St.asg ?_
    refine St.nil (St.then_normal (St.seq (St.rg ?_)))
    refine St.mv ?_
    refine St.nil (St.then_normal ?_)
    refine St.cond _ rfl (fun h41 => ?_) (fun h41 => ?_)
    ·skip
     try simp only [jbAll] at h41
     rw [if_pos (show (tyE t).1 ∈ (ts.take k).map TyD.name from h41)] at hst
     refine St.seq (St.rg ?_)
     refine St.mv ?_
     refine St.ev _ (Ev.call (hierarchyFault_spec 7 k) cb51 (.cons (.mk rfl) (.cons (.mk rfl) .nil))) rfl ?_
     refine St.storeA (Opd.mk rfl) (Opd.mk rfl) sz42 (by first | simp only [List.length_cons, List.length_nil] | rfl) rfl ?_
     refine St.nil (St.then_normal (St.rett (St.then_ret (St.in_ret (St.then_ret (St.then_ret (St.in_ret (St.then_ret ?_))))))))
     refine St.rets [_] [] Tryd.results52 ⟨⟨_, _, _, _, rfl, InB.mem, .inl ⟨⟨_, Tryd.underlying42⟩, sz42, rfl⟩⟩, trivial⟩ ?_ (fun _ hw => hw.sub)
     exact congrArg fv hst.symm
    ·skip
     try simp only [jbAll] at h41
     rw [if_neg (show ¬ (tyE t).1 ∈ (ts.take k).map TyD.name from h41)] at hst
     refine St.skip (St.then_normal (St.seq (St.rg ?_)))
     refine St.mv ?_
     refine St.ev _ (Ev.fldb0 (.mk rfl) fo113_0) rfl ?_
     refine St.ev _ (Ev.ldb (.mk rfl) Tryd.underlying9 trivial (by rfl)) rfl ?_
     refine St.mv ?_
     refine St.mapUpdate mkStr (k := t.name) (.mk rfl) (.mk rfl) (.mk rfl) Tryd.underlying104 (by exact Tryd.underlying9) ?_
     refine St.nil (St.then_normal (St.seq (St.seq (St.rg ?_))))
     refine St.mv ?_
     refine St.ev _ (Ev.eql (.mk rfl) (.mk rfl)) rfl ?_
     refine St.ev _ (Ev.fldb0 (.mk rfl) fo113_1) rfl ?_
     refine St.ev _ (Ev.ldb (.mk rfl) Tryd.underlying57 trivial (by rfl)) rfl ?_
     refine St.ev _ (Ev.lensl (.mk rfl) Tryd.underlying57) rfl ?_
     refine St.ev _ (Ev.eql (.mk rfl) (.mk rfl)) rfl ?_
     refine St.ev _ (Ev.boolneq (.mk rfl) (.mk rfl) Tryd.underlying4) rfl ?_
     refine St.nil (St.then_normal ?_)
     refine St.cond _ rfl (fun h54 => ?_) (fun h54 => ?_)
     ·skip
      skip
      have h54q : decide (k = 0) ≠ decide (t.parents.length = 0) := by simpa using h54
      rw [if_pos (show decide (k = 0) ≠ decide ((tyE t).2.length = 0) from h54q)] at hst
      refine St.seq (St.rg ?_)
      refine St.mv ?_
      refine St.ev _ (Ev.call (hierarchyFault_spec 5 k) cb51 (.cons (.mk rfl) (.cons (.mk rfl) .nil))) rfl ?_
      refine St.storeA (Opd.mk rfl) (Opd.mk rfl) sz42 (by first | simp only [List.length_cons, List.length_nil] | rfl) rfl ?_
      refine St.nil (St.then_normal (St.rett (St.then_ret (St.in_ret (St.then_ret (St.then_ret (St.in_ret (St.then_ret ?_))))))))
      refine St.rets [_] [] Tryd.results52 ⟨⟨_, _, _, _, rfl, InB.mem, .inl ⟨⟨_, Tryd.underlying42⟩, sz42, rfl⟩⟩, trivial⟩ ?_ (fun _ hw => hw.sub)
      exact congrArg fv hst.symm
     ·skip
      skip
      have h54q : ¬ decide (k = 0) ≠ decide (t.parents.length = 0) := by simpa using h54
      rw [if_neg (show ¬ decide (k = 0) ≠ decide ((tyE t).2.length = 0) from h54q)] at hst
      refine St.skip (St.then_normal (St.seq (St.rg ?_)))
      refine St.asg ?_
      refine St.nil (St.then_normal (St.seq (St.rg ?_)))
      refine St.ev _ (Ev.fldb0 (.mk rfl) fo113_1) rfl ?_
      refine St.ev _ (Ev.ldb (.mk rfl) Tryd.underlying57 trivial (by rfl)) rfl ?_
      refine St.ev _ (Ev.lensl (.mk rfl) Tryd.underlying57) rfl ?_
      refine St.mv ?_
      refine St.nil (St.then_normal (St.block ?_))
      refine St.loopH2 (ι := Nat) (κ := Int) (fun q z T => (60, iv q) :: (8, iv z) :: T) (fun q z => [blk b20 (mobj mkStr (mset m t.name (iv k))), blk b2 (.cells [iv 0, iv 0].toArray 42 (0, 0)), dat (sl intR t.pv.1 t.parents), dat (sl tyR u ts), dat (dall tyD ts)]) (fun q z => q ≤ t.parents.length ∧ parF k (-1) (tyE t).2 = parF k z (t.parents.drop q)) (fun q z => t.parents.length - q) 0 (-1) (Keep.cons 2 rfl (Keep.cons 3 rfl (Keep.cons 4 rfl (Keep.cons 21 rfl (Keep.cons 22 rfl (Keep.cons 23 rfl (Keep.cons 58 rfl (Keep.cons 59 rfl Keep.nil)))))))) ⟨Nat.zero_le _, rfl⟩ (by repeat (first | exact Sub.nil | refine Sub.cons (by first | rfl | exact congrArg (fun z => some (iv z)) (by first | omega | (dsimp only; omega)) | exact congrArg (fun z => some (Value.bool z)) (by first | assumption | exact Eq.symm (by assumption))) ?_)) (fun _ hw => hw.sub) ?_
      rintro q z ⟨hq, hpv⟩
      refine St.seq (St.rg ?_)
      refine St.ev _ (Ev.lss (.mk rfl) (.mk rfl)) rfl ?_
      refine St.nil (St.then_normal (St.seq ?_))
      refine St.cond _ rfl (fun h61 => ?_) (fun h61 => ?_)
      ·skip
       try simp only [jbAll] at h61
       obtain ⟨p, hp⟩ := some_of_lt (show q < t.parents.length by omega)
       have hps := parF_drop (i := k) (z := z) hp
       refine St.skip (St.then_normal (St.seq (St.block (St.seq (St.rg ?_)))))
       refine St.ev _ (Ev.idxaddr (k := q) (.mk rfl) (.mk rfl) Tryd.underlying57 sz3 (by omega) (by omega)) rfl ?_
       refine St.ev _ (Ev.ld1 (.mk rfl) hp Tryd.underlying3 trivial rfl) rfl ?_
       refine St.asg ?_
       refine St.nil (St.then_normal (St.seq (St.seq (St.rg ?_))))
       refine St.mv ?_
       refine St.ev _ (Ev.lss (.mk rfl) (.mk rfl)) rfl ?_
       refine St.mv ?_
       refine St.gf _ rfl rfl (fun hg => Ev.move (.mk rfl)) rfl ?_
       refine St.gf _ rfl rfl (fun hg => Ev.move (.mk rfl)) rfl ?_
       refine St.gf _ rfl rfl (fun hg => Ev.geq (Opd.gv rfl hg) (Opd.gv rfl hg)) rfl ?_
       refine St.ev _ (Ev.or (.mk rfl) (fun hp => Opd.gv rfl hp)) rfl ?_
       refine St.nil (St.then_normal ?_)
       refine St.cond _ rfl (fun h70 => ?_) (fun h70 => ?_)
       ·skip
        try simp only [jbAll] at h70
        rw [if_pos (by omega)] at hps
        rw [hpv, hps, if_pos (by show (3 : Int) ≠ 0; decide)] at hst
        refine St.seq (St.rg ?_)
        refine St.mv ?_
        refine St.ev _ (Ev.call (hierarchyFault_spec 3 k) cb51 (.cons (.mk rfl) (.cons (.mk rfl) .nil))) rfl ?_
        refine St.storeA (Opd.mk rfl) (Opd.mk rfl) sz42 (by first | simp only [List.length_cons, List.length_nil] | rfl) rfl ?_
        refine St.nil (St.then_normal (St.rett (St.then_ret (St.in_ret (St.then_ret (St.then_ret (St.in_ret (St.in_ret (St.then_ret (St.then_ret (St.in_ret (St.then_ret ?_))))))))))))
        refine St.rets [_] [] Tryd.results52 ⟨⟨_, _, _, _, rfl, InB.mem, .inl ⟨⟨_, Tryd.underlying42⟩, sz42, rfl⟩⟩, trivial⟩ ?_ (fun _ hw => hw.sub)
        exact congrArg fv hst.symm
       ·skip
        try simp only [jbAll] at h70
        rw [if_neg (by omega)] at hps
        refine St.skip (St.then_normal (St.seq (St.seq (St.rg ?_))))
        refine St.mv ?_
        refine St.mv ?_
        refine St.ev _ (Ev.leq (.mk rfl) (.mk rfl)) rfl ?_
        refine St.nil (St.then_normal ?_)
        refine St.cond _ rfl (fun h75 => ?_) (fun h75 => ?_)
        ·skip
         try simp only [jbAll] at h75
         rw [if_pos (by omega)] at hps
         rw [hpv, hps, if_pos (by show (13 : Int) ≠ 0; decide)] at hst
         refine St.seq (St.rg ?_)
         refine St.mv ?_
         refine St.ev _ (Ev.call (hierarchyFault_spec 13 k) cb51 (.cons (.mk rfl) (.cons (.mk rfl) .nil))) rfl ?_
         refine St.storeA (Opd.mk rfl) (Opd.mk rfl) sz42 (by first | simp only [List.length_cons, List.length_nil] | rfl) rfl ?_
         refine St.nil (St.then_normal (St.rett (St.then_ret (St.in_ret (St.then_ret (St.then_ret (St.in_ret (St.in_ret (St.then_ret (St.then_ret (St.in_ret (St.then_ret ?_))))))))))))
         refine St.rets [_] [] Tryd.results52 ⟨⟨_, _, _, _, rfl, InB.mem, .inl ⟨⟨_, Tryd.underlying42⟩, sz42, rfl⟩⟩, trivial⟩ ?_ (fun _ hw => hw.sub)
         exact congrArg fv hst.symm
        ·skip
         try simp only [jbAll] at h75
         rw [if_neg (by omega)] at hps
         refine St.skip (St.then_normal (St.rg ?_))
         refine St.mv ?_
         refine St.asg ?_
         refine St.nil (St.in_normal (St.then_normal (St.rg ?_)))
         refine St.ev _ (Ev.add (.mk rfl) (.mk rfl) (by omega)) rfl ?_
         refine St.mv ?_
         refine St.nil (St.then_normal ?_)
         refine St.againH2 (q + 1) p ⟨by omega, by rw [hpv, hps]⟩ (by first | omega | (dsimp only; omega)) (by repeat (first | exact Sub.nil | refine Sub.cons (by first | rfl | exact congrArg (fun z => some (iv z)) (by first | omega | (dsimp only; omega)) | exact congrArg (fun z => some (Value.bool z)) (by first | assumption | exact Eq.symm (by assumption))) ?_)) (fun _ hw => hw.sub)
      ·skip
       try simp only [jbAll] at h61
       rw [parF_end (by omega)] at hpv
       rw [if_neg (by rw [hpv]; decide)] at hst
       refine St.exit (St.then_exit (St.then_exit (St.in_hit (St.in_normal (St.then_normal (St.rg ?_))))))
       refine St.ev _ (Ev.add (.mk rfl) (.mk rfl) (by omega)) rfl ?_
       refine St.mv ?_
       refine St.nil (St.then_normal ?_)
       refine St.againH2 (k + 1) (mset m t.name (iv k)) ⟨by omega, by rw [hst, map_take_snoc TyD.name ht]; rfl, by rw [map_take_snoc TyD.name ht]; exact hkn.snoc _ _⟩ (by first | omega | (dsimp only; omega)) (by repeat (first | exact Sub.nil | refine Sub.cons (by first | rfl | exact congrArg (fun z => some (iv z)) (by first | omega | (dsimp only; omega)) | exact congrArg (fun z => some (Value.bool z)) (by first | assumption | exact Eq.symm (by assumption))) ?_)) (fun _ hw => hw.sub)
  ·skip
   try simp only [jbAll] at h24
   rw [tyFrom_end (by rw [List.length_map]; omega)] at hv
   refine St.exit (St.then_exit (St.then_exit (St.in_hit (St.then_normal (St.seq (St.rg ?_))))))
   refine St.ev _ (Ev.build (ps := []) (Opds.nil) (fun w => bld42_  w)) rfl ?_
   refine St.storeA (Opd.mk rfl) (Opd.mk rfl) sz42 (by first | simp only [List.length_cons, List.length_nil] | rfl) rfl ?_
   refine St.nil (St.then_normal (St.rett ?_))
   refine St.rets [_] [] Tryd.results52 ⟨⟨_, _, _, _, rfl, InB.mem, .inl ⟨⟨_, Tryd.underlying42⟩, sz42, rfl⟩⟩, trivial⟩ ?_ (fun _ hw => hw.sub)
   exact congrArg fv hv.symm
end Go.Proofs.YtolmidffiegkaaaDoor

/-
  (YtolmidffiegkaaaDoorHierQ)
  The two tables of bits: above and below.
  Conditions: none.
-/
namespace Go.Proofs.YtolmidffiegkaaaDoor
open Go Go.J
def upN (T : List Ty0) (i : Nat) : Nat := (ups T).getD i 0
def upQ (T : List Ty0) (k : Nat) (ps : List Int) : Nat := ps.foldl (fun u p => u ||| upN T p.toNat) (2 ^ k)
theorem upQ_snoc (T : List Ty0) (k : Nat) (ps : List Int) (p : Int) : upQ T k (ps ++ [p]) = upQ T k ps ||| upN T p.toNat := by unfold upQ; rw [List.foldl_append]; rfl
theorem upN_at {T : List Ty0} (hT : TyOK T) {k : Nat} {t : Ty0} (h : T[k]? = some t) : upN T k = upQ T k t.2 := by
 have e : ∀ (ps : List Int) (u : Nat), (∀ p ∈ ps, 0 ≤ p ∧ p < k) → ps.foldl (fun u p => u ||| (ups (T.take k)).getD p.toNat 0) u = ps.foldl (fun u p => u ||| upN T p.toNat) u := by
  intro ps
  induction ps with
  | nil => intro u _; rfl
  | cons p ps ih =>
   intro u hp
   have hp0 := hp p (List.mem_cons_self ..)
   rw [List.foldl_cons, List.foldl_cons, ups_take T k p.toNat (by omega) (Nat.le_of_lt (lt_of_some h))]
   exact ih _ fun q hq => hp q (List.mem_cons_of_mem _ hq)
 show (ups T).getD k 0 = _
 rw [ups_at h]
 exact e t.2 _ (hT.par k t h)
theorem upN_lt {T : List Ty0} (hT : TyOK T) : ∀ k : Nat, upN T k < 2 ^ (k + 1) := by
 intro k
 induction k using Nat.strongRecOn with
 | ind k ih =>
  rcases Nat.lt_or_ge k T.length with h | h
  ·rw [upN_at hT (List.getElem?_eq_getElem h)]
   have hp := hT.par k _ (List.getElem?_eq_getElem h)
   generalize (T[k]).2 = ps at hp
   have e : ∀ (ps : List Int) (u : Nat), (∀ p ∈ ps, 0 ≤ p ∧ p < k) → u < 2 ^ (k + 1) → ps.foldl (fun u p => u ||| upN T p.toNat) u < 2 ^ (k + 1) := by
    intro ps
    induction ps with
    | nil => intro u _ h; exact h
    | cons p ps ih2 =>
     intro u hp hu
     have hp0 := hp p (List.mem_cons_self ..)
     refine ih2 _ (fun q hq => hp q (List.mem_cons_of_mem _ hq)) (Nat.or_lt_two_pow hu ?_)
     exact Nat.lt_of_lt_of_le (ih p.toNat (by omega)) (Nat.pow_le_pow_right (by omega) (by omega))
   exact e ps _ hp (Nat.pow_lt_pow_right (by omega) (by omega))
  ·show (ups T).getD k 0 < _
   rw [List.getD_eq_getElem?_getD, List.getElem?_eq_none (by rw [ups_len]; exact h)]
   exact Nat.pow_pos (by omega)
theorem upN_64 {T : List Ty0} (hT : TyOK T) {k : Nat} (hk : k < 60) : upN T k < 18446744073709551616 :=
 Nat.lt_of_lt_of_le (upN_lt hT k) (show 2 ^ (k + 1) ≤ 2 ^ 64 from Nat.pow_le_pow_right (by decide) (by omega))
theorem upQ_64 {T : List Ty0} (hT : TyOK T) {k : Nat} (hk : k < 60) : ∀ {ps : List Int}, (∀ p ∈ ps, 0 ≤ p ∧ p < k) → upQ T k ps < 18446744073709551616 := by
 have e : ∀ (ps : List Int) (u : Nat), (∀ p ∈ ps, 0 ≤ p ∧ p < k) → u < 18446744073709551616 → ps.foldl (fun u p => u ||| upN T p.toNat) u < 18446744073709551616 := by
  intro ps
  induction ps with
  | nil => intro u _ h; exact h
  | cons p ps ih =>
   intro u hp hu
   have hp0 := hp p (List.mem_cons_self ..)
   exact ih _ (fun q hq => hp q (List.mem_cons_of_mem _ hq)) (Nat.or_lt_two_pow (n := 64) hu (upN_64 hT (by omega)))
 intro ps hp
 exact e ps _ hp (show 2 ^ k < 2 ^ 64 from Nat.pow_lt_pow_right (by decide) (by omega))
def dnAt (T : List Ty0) (k j : Nat) : Nat := (List.range k).foldl (fun a i => if subT T i j then a ||| 2 ^ i else a) 0
theorem dnAt_succ (T : List Ty0) (k j : Nat) : dnAt T (k + 1) j = if subT T k j then dnAt T k j ||| 2 ^ k else dnAt T k j := by
 unfold dnAt; rw [List.range_succ, List.foldl_append]; rfl
theorem dnAt_lt (T : List Ty0) (j : Nat) : ∀ k : Nat, dnAt T k j < 2 ^ k
 | 0 => by show (0 : Nat) < 2 ^ 0; omega
 | k + 1 => by
  have ih := Nat.lt_of_lt_of_le (dnAt_lt T j k) (Nat.pow_le_pow_right (n := 2) (by omega) (Nat.le_succ k))
  rw [dnAt_succ]
  split
  ·exact Nat.or_lt_two_pow ih (Nat.pow_lt_pow_right (by omega) (by omega))
  ·exact ih
theorem dnAt_64 (T : List Ty0) (j : Nat) {k : Nat} (hk : k ≤ 60) : dnAt T k j < 18446744073709551616 :=
 Nat.lt_of_lt_of_le (dnAt_lt T j k) (show 2 ^ k ≤ 2 ^ 64 from Nat.pow_le_pow_right (by decide) (by omega))
theorem dnAt_bit (T : List Ty0) (j i : Nat) : ∀ k : Nat, (dnAt T k j).testBit i = (decide (i < k) && subT T i j)
 | 0 => by show (0 : Nat).testBit i = _; simp
 | k + 1 => by
  rw [dnAt_succ]
  have ih := dnAt_bit T j i k
  by_cases e : i = k
  ·subst e
   cases h : subT T i j with
   | true => simp [ih, Nat.testBit_two_pow]
   | false => simp [ih]
  ·have e2 : decide (i < k + 1) = decide (i < k) := by rw [decide_eq_decide]; omega
   rw [e2]
   split
   ·rw [Nat.testBit_or, ih, Nat.testBit_two_pow, decide_eq_false (p := k = i) (fun h => e h.symm), Bool.or_false]
   ·exact ih
def upsL (T : List Ty0) : List Nat := (List.range T.length).map (upN T)
def dnsL (T : List Ty0) : List Nat := (List.range T.length).map (dnAt T T.length)
theorem list_range {f : Nat → Nat} {n : Nat} {U : List Nat} (hl : U.length = n) (h : ∀ i, i < n → U[i]? = some (f i)) : U = (List.range n).map f := by
 refine List.ext_getElem? fun i => ?_
 rw [List.getElem?_map]
 rcases Nat.lt_or_ge i n with hi | hi
 ·rw [h i hi, List.getElem?_range hi]; rfl
 ·rw [List.getElem?_eq_none (by omega), List.getElem?_eq_none (by simpa using hi)]; rfl
theorem upsL_get {T : List Ty0} {i : Nat} (h : i < T.length) : (upsL T)[i]? = some (upN T i) := by unfold upsL; rw [List.getElem?_map, List.getElem?_range h]; rfl
theorem dnsL_get {T : List Ty0} {i : Nat} (h : i < T.length) : (dnsL T)[i]? = some (dnAt T T.length i) := by unfold dnsL; rw [List.getElem?_map, List.getElem?_range h]; rfl
theorem upsL_len (T : List Ty0) : (upsL T).length = T.length := by simp [upsL]
theorem dnsL_len (T : List Ty0) : (dnsL T).length = T.length := by simp [dnsL]
def both (T : List Ty0) (a b : Nat) : Nat := dnAt T T.length a &&& dnAt T T.length b
theorem both_bit (T : List Ty0) (a b i : Nat) : (both T a b).testBit i = (decide (i < T.length) && (subT T i a && subT T i b)) := by
 unfold both; rw [Nat.testBit_and, dnAt_bit, dnAt_bit]
 cases decide (i < T.length) <;> simp
theorem mem_comm {T : List Ty0} {a b i : Nat} : i ∈ comm T a b ↔ (both T a b).testBit i = true := by
 unfold comm; rw [List.mem_filter, List.mem_range, both_bit]; simp only [Bool.and_eq_true, decide_eq_true_eq]
theorem wrong_none {T : List Ty0} {a b : Nat} (h : both T a b = 0) : wrongT T a b = false := by
 unfold wrongT
 split
 ·rfl
 ·rename_i m r e
  have : m ∈ comm T a b := by rw [e]; exact List.mem_cons_self ..
  rw [mem_comm, h, Nat.zero_testBit] at this; cases this
theorem wrong_at {T : List Ty0} (hT : TyOK T) {a b m : Nat} (h : (both T a b).testBit m = true) (hl : ∀ i, i < m → (both T a b).testBit i = false) : wrongT T a b = decide (dnAt T T.length m ≠ both T a b) := by
 have hm := mem_comm.2 h
 unfold wrongT
 split
 ·rename_i e; rw [e] at hm; cases hm
 ·rename_i m' r e
  have hp : (comm T a b).Pairwise (· < ·) := by unfold comm; exact List.Pairwise.filter _ List.pairwise_lt_range
  rw [e] at hp
  have hm' : m' ∈ comm T a b := by rw [e]; exact List.mem_cons_self ..
  have e2 : m' = m := by
   rw [e] at hm
   rcases List.mem_cons.1 hm with h2 | h2
   ·exact h2.symm
   ·have h3 := (List.pairwise_cons.1 hp).1 m h2
    have h4 := hl m' h3
    rw [mem_comm.1 hm'] at h4; cases h4
  subst e2
  have hb := h
  rw [both_bit, Bool.and_eq_true, Bool.and_eq_true, decide_eq_true_eq] at hb
  rw [Bool.eq_iff_iff, List.any_eq_true, decide_eq_true_eq]
  constructor
  ·rintro ⟨i, hi, h5⟩ h6
   have h7 : (both T a b).testBit i = true := mem_comm.1 (by rw [e]; exact List.mem_cons_of_mem _ hi)
   rw [← h6, dnAt_bit, Bool.and_eq_true] at h7
   rw [h7.2] at h5; cases h5
  ·intro h5
   apply Decidable.byContradiction
   intro h6
   refine h5 (Nat.eq_of_testBit_eq fun i => ?_)
   rw [dnAt_bit, both_bit]
   rw [Bool.eq_iff_iff, Bool.and_eq_true, Bool.and_eq_true, decide_eq_true_eq]
   constructor
   ·rintro ⟨h7, h8⟩
    exact ⟨h7, by rw [sub_trans hT h8 hb.2.1, sub_trans hT h8 hb.2.2]; rfl⟩
   ·rintro ⟨h7, h8⟩
    refine ⟨h7, ?_⟩
    have h9 : i ∈ comm T a b := mem_comm.2 (by rw [both_bit, h8, decide_eq_true h7]; rfl)
    rw [e] at h9
    rcases List.mem_cons.1 h9 with rfl | h9
    ·exact sub_self hT h7
    ·cases h10 : subT T i m' with
     | true => rfl
     | false => exact absurd ⟨i, h9, by rw [h10]; rfl⟩ h6
end Go.Proofs.YtolmidffiegkaaaDoor

/-
  (YtolmidffiegkaaaDoorJ31)
  Numbers of 64 bits without sign: bits and, bits or, a bit; rows of them.
  Conditions: none; everything holds of any program.
-/
namespace Go.J
open Go
section
variable {P : Program} {n : Nat} {F : Fr} {A : World → Prop} {ty t u : TypeId} {x y : Operand} {a b : Nat}
theorem bits_andG (h : a < 18446744073709551616) (h2 : b < 18446744073709551616) : bits .and .u64 (a : Int) (b : Int) = ((a &&& b : Nat) : Int) := by
 have e : (BitVec.ofInt IntKind.u64.bits (a : Int) &&& BitVec.ofInt IntKind.u64.bits (b : Int)).toNat = a &&& b := by
  show (BitVec.ofInt 64 (a : Int) &&& BitVec.ofInt 64 (b : Int)).toNat = _
  rw [BitVec.toNat_and, BitVec.ofInt_natCast, BitVec.ofInt_natCast, BitVec.toNat_ofNat, BitVec.toNat_ofNat, Nat.mod_eq_of_lt h, Nat.mod_eq_of_lt h2]
 simp only [bits, e]
 rw [wrapU_nat, Nat.mod_eq_of_lt (Nat.lt_of_le_of_lt Nat.and_le_left h)]
theorem bits_orG (h : a < 18446744073709551616) (h2 : b < 18446744073709551616) : bits .or .u64 (a : Int) (b : Int) = ((a ||| b : Nat) : Int) := by
 have e : (BitVec.ofInt IntKind.u64.bits (a : Int) ||| BitVec.ofInt IntKind.u64.bits (b : Int)).toNat = a ||| b := by
  show (BitVec.ofInt 64 (a : Int) ||| BitVec.ofInt 64 (b : Int)).toNat = _
  rw [BitVec.toNat_or, BitVec.ofInt_natCast, BitVec.ofInt_natCast, BitVec.toNat_ofNat, BitVec.toNat_ofNat, Nat.mod_eq_of_lt h, Nat.mod_eq_of_lt h2]
 simp only [bits, e]
 rw [wrapU_nat, Nat.mod_eq_of_lt (Nat.or_lt_two_pow (n := 64) h h2)]
theorem Ev.andG (hx : Opd F x (uv a)) (hy : Opd F y (uv b)) (h : a < 18446744073709551616 ∧ b < 18446744073709551616) : Ev P n F A (.binOp .and t x y u) ty (uv (a &&& b)) := .of_run fun a' w ha _ => by
 simp only [execOp, hx.eval ha, hy.eval ha]; simp only [go_sem, bits_andG h.1 h.2]; simp
theorem Ev.orG (hx : Opd F x (uv a)) (hy : Opd F y (uv b)) (h : a < 18446744073709551616 ∧ b < 18446744073709551616) : Ev P n F A (.binOp .or t x y u) ty (uv (a ||| b)) := .of_run fun a' w ha _ => by
 simp only [execOp, hx.eval ha, hy.eval ha]; simp only [go_sem, bits_orG h.1 h.2]; simp
theorem Ev.bitK {k : Nat} {i : Int} {kd : IntKind} (hx : Opd F x (uv 1)) (hy : Opd F y (.int kd i)) (h : i = k ∧ k < 64) : Ev P n F A (.binOp .shl t x y u) ty (uv (2 ^ k)) := by
 have := Ev.shlU (P := P) (n := n) (A := A) (ty := ty) (t := t) (u := u) k (2 ^ k) rfl hx hy (by omega)
 have e : 1 * 2 ^ k % 18446744073709551616 = 2 ^ k := by
  rw [Nat.one_mul]; exact Nat.mod_eq_of_lt (show 2 ^ k < 2 ^ 64 from Nat.pow_lt_pow_right (by decide) h.2)
 rw [e] at this; exact this
theorem bit_dec (a j : Nat) : decide ((((a / 2 ^ j % 2 : Nat) : Int)) = 1) = a.testBit j := by
 rw [Nat.testBit_eq_decide_div_mod_eq, decide_eq_decide]; omega
end
def u64R : Rp Nat := ⟨1, by decide, fun a => [uv a], fun a => a < 18446744073709551616, fun _ => rfl, fun x u h => by rw [List.mem_singleton.1 h]; rfl⟩
theorem rows_u64R (U : List Nat) : rows u64R U = U.map fun a => uv a := by
 show U.flatMap (fun a => [uv a]) = _
 induction U with
 | nil => rfl
 | cons a U ih => rw [List.flatMap_cons, ih]; rfl
theorem rowU_get {U : List Nat} {k a : Nat} (h : U[k]? = some a) : (rows u64R U)[k * 1 + 0]? = some (uv a) := by
 rw [rows_u64R, Nat.mul_one, Nat.add_zero, List.getElem?_map, h]; rfl
theorem rowU_set {U : List Nat} {k a : Nat} : (rows u64R U).set (k * 1 + 0) (uv a) = rows u64R (U.set k a) := by
 rw [rows_u64R, rows_u64R, Nat.mul_one, Nat.add_zero, List.map_set]
theorem rowU_rep (n : Nat) : List.replicate n (uv 0) = rows u64R (List.replicate n 0) := by rw [rows_u64R, List.map_replicate]
end Go.J

/-
  (YtolmidffiegkaaaDoorQ12)
  The walks of the tables of types.
  Conditions: none beyond the sizes.
-/
set_option maxRecDepth 20000
set_option linter.unusedSimpArgs false
set_option linter.unusedVariables false
namespace Go.Proofs.YtolmidffiegkaaaDoor
open Go Go.J
theorem dn_step {T : List Ty0} {k q n : Nat} {E : List Nat} (hE : ∀ j, j < n → E[j]? = some (if j < q then dnAt T (k + 1) j else dnAt T k j)) (hl : E.length = n) (hq : q < n) (h : subT T k q = true) :
  ∀ j, j < n → (E.set q (dnAt T k q ||| 2 ^ k))[j]? = some (if j < q + 1 then dnAt T (k + 1) j else dnAt T k j) := fun j hj => by
 by_cases e : q = j
 ·subst e; rw [List.getElem?_set_self (by omega), if_pos (by omega), dnAt_succ, if_pos h]
 ·rw [List.getElem?_set_ne e, hE j hj]
  by_cases e2 : j < q
  ·rw [if_pos e2, if_pos (by omega)]
  ·rw [if_neg e2, if_neg (by omega)]
theorem dn_skip {T : List Ty0} {k q n : Nat} {E : List Nat} (hE : ∀ j, j < n → E[j]? = some (if j < q then dnAt T (k + 1) j else dnAt T k j)) (h : subT T k q = false) :
  ∀ j, j < n → E[j]? = some (if j < q + 1 then dnAt T (k + 1) j else dnAt T k j) := fun j hj => by
 rw [hE j hj]
 by_cases e : q = j
 ·subst e; rw [if_neg (by omega), if_pos (by omega), dnAt_succ, if_neg (by rw [h]; decide)]
 ·by_cases e2 : j < q
  ·rw [if_pos e2, if_pos (by omega)]
  ·rw [if_neg e2, if_neg (by omega)]
set_option maxHeartbeats 2000000 in
theorem Tables_spec (u : Value) (ts : List TyD) (hT : TyOK (ts.map tyE)) : FnH Tryd.prog 39 #[u] ([sl tyR u ts, dall tyD ts].map dat) (fun v H' => ∃ w1 w2 : OneV, v = .agg #[w1.1, w2.1] ∧ H' = [dat (sl u64R w1.1 (upsL (ts.map tyE))), dat (sl u64R w2.1 (dnsL (ts.map tyE)))]) := by
 refine FnH.body (args := [u]) 75 Tryd.func39 rfl Tryd.ntmps39 rfl (fun c => ?_)
 refine St.cast (H' := [dat (sl tyR u ts), dat (dall tyD ts)]) rfl ?_
 refine St.seq ?_
 have hl60 := hT.len
 rw [List.length_map] at hl60
 refine St.rg ?_
 refine St.alloc zc102 rfl (fun b2 => ?_)
 refine St.nil (St.then_normal ?_)
 refine St.join (ι := Nat × Nat × Nat) (fun y T => (3, .pointer (some ⟨y.2.2, 0, none⟩)) :: T) (fun y => [blk y.2.2 (.cells [(.slice (some ⟨y.1, 0, none⟩) ts.length ts.length), (.slice (some ⟨y.2.1, 0, none⟩) ts.length ts.length)].toArray 102 (0, 0)), row (.slice (some ⟨y.1, 0, none⟩) ts.length ts.length) 130 1 ts.length (rows u64R (List.replicate ts.length 0)), row (.slice (some ⟨y.2.1, 0, none⟩) ts.length ts.length) 130 1 ts.length (rows u64R (List.replicate ts.length 0)), blk b2 (.cells [(.slice none 0 0), (.slice none 0 0)].toArray 102 (0, 0)), dat (sl tyR u ts), dat (dall tyD ts)]) (fun y => True) (Keep.cons 0 rfl (Keep.cons 2 rfl Keep.nil)) ?_ ?_
 ·skip
  refine St.par [] mixed ?_
  refine SW.defer 0 (by repeat (first | refine NP.then ?_ | refine NP.inBlock ?_ | exact NP.body)) (by kernel_rfl) rfl (fun R => Ev.move (.mk rfl)) (by kernel_rfl) rfl ?_
  refine SW.defer 1 (by repeat (first | refine NP.then ?_ | refine NP.inBlock ?_ | exact NP.body)) (by kernel_rfl) rfl (fun R => Ev.lensl (.mk rfl) Tryd.underlying22) (by kernel_rfl) rfl ?_
  refine SW.defer 3 (by repeat (first | refine NP.then ?_ | refine NP.inBlock ?_ | exact NP.body)) (by kernel_rfl) rfl (fun R => Ev.move (.mk rfl)) (by kernel_rfl) rfl ?_
  refine SW.defer 4 (by repeat (first | refine NP.then ?_ | refine NP.inBlock ?_ | exact NP.body)) (by kernel_rfl) rfl (fun R => Ev.lensl (.mk rfl) Tryd.underlying22) (by kernel_rfl) rfl ?_
  refine SW.turn3 (i := 2) (j := 5) (k := 7) (by kernel_rfl) rfl rfl rfl ?_ ?_ ?_
  ·skip
   refine St.makeSl (m := ts.length) (.mk rfl) (.mk rfl) Tryd.underlying100 sz130 zv130 by130 rfl rfl (by omega) rfl rfl (fun b11 => ?_)
   refine St.rowEqN (.slice (some ⟨b11, 0, none⟩) ts.length ts.length) rfl (rowU_rep _) ?_
   refine St.nil (St.then_normal ?_)
   refine SW.go ?_
   refine SW.turn2 (i := 5) (j := 7) (by kernel_rfl) rfl rfl ?_ ?_
   ·skip
    refine St.makeSl (m := ts.length) (.mk rfl) (.mk rfl) Tryd.underlying100 sz130 zv130 by130 rfl rfl (by omega) rfl rfl (fun b14 => ?_)
    refine St.rowEqN (.slice (some ⟨b14, 0, none⟩) ts.length ts.length) rfl (rowU_rep _) ?_
    refine St.nil (St.then_normal ?_)
    refine SW.go ?_
    refine SW.defer 6 (by repeat (first | refine NP.then ?_ | refine NP.inBlock ?_ | exact NP.body)) (by kernel_rfl) rfl (fun R => Ev.build (ps := [(0, (.tmp 11)), (1, (.tmp 14))]) (Opds.cons (Opd.mk rfl) (Opds.cons (Opd.mk rfl) Opds.nil)) (fun w => bld102_0_1 rfl rfl w)) (by kernel_rfl) rfl ?_
    refine SW.turn1 (i := 7) (by kernel_rfl) rfl ?_
    refine St.alloc zc102 rfl (fun b3 => ?_)
    refine St.nil (St.then_normal ?_)
    refine SW.go ?_
    refine SW.turn1 (i := 8) (by kernel_rfl) rfl ?_
    refine St.storeA (Opd.mk rfl) (Opd.mk rfl) sz102 (by first | simp only [List.length_cons, List.length_nil] | rfl) (by simp only [List.all_cons, List.all_nil, Bool.and_true, Bool.and_eq_true]; exact ⟨rfl, rfl⟩) ?_
    refine St.nil (St.then_normal ?_)
    refine SW.go ?_
    refine SW.done (by kernel_rfl) ?_
    refine St.then_normal ?_
    refine St.met (b11, b14, b3) trivial (by repeat (first | exact Sub.nil | refine Sub.cons (by first | rfl | exact congrArg (fun z => some (iv z)) (by first | omega | (dsimp only; omega)) | exact congrArg (fun z => some (Value.bool z)) (by first | assumption | exact Eq.symm (by assumption))) ?_)) (fun _ hw => hw.sub)
   ·skip
    refine St.alloc zc102 rfl (fun b3 => ?_)
    refine St.nil (St.then_normal ?_)
    refine SW.go ?_
    refine SW.turn1 (i := 5) (by kernel_rfl) rfl ?_
    refine St.makeSl (m := ts.length) (.mk rfl) (.mk rfl) Tryd.underlying100 sz130 zv130 by130 rfl rfl (by omega) rfl rfl (fun b14 => ?_)
    refine St.rowEqN (.slice (some ⟨b14, 0, none⟩) ts.length ts.length) rfl (rowU_rep _) ?_
    refine St.nil (St.then_normal ?_)
    refine SW.go ?_
    refine SW.defer 6 (by repeat (first | refine NP.then ?_ | refine NP.inBlock ?_ | exact NP.body)) (by kernel_rfl) rfl (fun R => Ev.build (ps := [(0, (.tmp 11)), (1, (.tmp 14))]) (Opds.cons (Opd.mk rfl) (Opds.cons (Opd.mk rfl) Opds.nil)) (fun w => bld102_0_1 rfl rfl w)) (by kernel_rfl) rfl ?_
    refine SW.turn1 (i := 8) (by kernel_rfl) rfl ?_
    refine St.storeA (Opd.mk rfl) (Opd.mk rfl) sz102 (by first | simp only [List.length_cons, List.length_nil] | rfl) (by simp only [List.all_cons, List.all_nil, Bool.and_true, Bool.and_eq_true]; exact ⟨rfl, rfl⟩) ?_
    refine St.nil (St.then_normal ?_)
    refine SW.go ?_
    refine SW.done (by kernel_rfl) ?_
    refine St.then_normal ?_
    refine St.met (b11, b14, b3) trivial (by repeat (first | exact Sub.nil | refine Sub.cons (by first | rfl | exact congrArg (fun z => some (iv z)) (by first | omega | (dsimp only; omega)) | exact congrArg (fun z => some (Value.bool z)) (by first | assumption | exact Eq.symm (by assumption))) ?_)) (fun _ hw => hw.sub)
  ·skip
   refine St.makeSl (m := ts.length) (.mk rfl) (.mk rfl) Tryd.underlying100 sz130 zv130 by130 rfl rfl (by omega) rfl rfl (fun b14 => ?_)
   refine St.rowEqN (.slice (some ⟨b14, 0, none⟩) ts.length ts.length) rfl (rowU_rep _) ?_
   refine St.nil (St.then_normal ?_)
   refine SW.go ?_
   refine SW.turn2 (i := 2) (j := 7) (by kernel_rfl) rfl rfl ?_ ?_
   ·skip
    refine St.makeSl (m := ts.length) (.mk rfl) (.mk rfl) Tryd.underlying100 sz130 zv130 by130 rfl rfl (by omega) rfl rfl (fun b11 => ?_)
    refine St.rowEqN (.slice (some ⟨b11, 0, none⟩) ts.length ts.length) rfl (rowU_rep _) ?_
    refine St.nil (St.then_normal ?_)
    refine SW.go ?_
    refine SW.defer 6 (by repeat (first | refine NP.then ?_ | refine NP.inBlock ?_ | exact NP.body)) (by kernel_rfl) rfl (fun R => Ev.build (ps := [(0, (.tmp 11)), (1, (.tmp 14))]) (Opds.cons (Opd.mk rfl) (Opds.cons (Opd.mk rfl) Opds.nil)) (fun w => bld102_0_1 rfl rfl w)) (by kernel_rfl) rfl ?_
    refine SW.turn1 (i := 7) (by kernel_rfl) rfl ?_
    refine St.alloc zc102 rfl (fun b3 => ?_)
    refine St.nil (St.then_normal ?_)
    refine SW.go ?_
    refine SW.turn1 (i := 8) (by kernel_rfl) rfl ?_
    refine St.storeA (Opd.mk rfl) (Opd.mk rfl) sz102 (by first | simp only [List.length_cons, List.length_nil] | rfl) (by simp only [List.all_cons, List.all_nil, Bool.and_true, Bool.and_eq_true]; exact ⟨rfl, rfl⟩) ?_
    refine St.nil (St.then_normal ?_)
    refine SW.go ?_
    refine SW.done (by kernel_rfl) ?_
    refine St.then_normal ?_
    refine St.met (b11, b14, b3) trivial (by repeat (first | exact Sub.nil | refine Sub.cons (by first | rfl | exact congrArg (fun z => some (iv z)) (by first | omega | (dsimp only; omega)) | exact congrArg (fun z => some (Value.bool z)) (by first | assumption | exact Eq.symm (by assumption))) ?_)) (fun _ hw => hw.sub)
   ·skip
    refine St.alloc zc102 rfl (fun b3 => ?_)
    refine St.nil (St.then_normal ?_)
    refine SW.go ?_
    refine SW.turn1 (i := 2) (by kernel_rfl) rfl ?_
    refine St.makeSl (m := ts.length) (.mk rfl) (.mk rfl) Tryd.underlying100 sz130 zv130 by130 rfl rfl (by omega) rfl rfl (fun b11 => ?_)
    refine St.rowEqN (.slice (some ⟨b11, 0, none⟩) ts.length ts.length) rfl (rowU_rep _) ?_
    refine St.nil (St.then_normal ?_)
    refine SW.go ?_
    refine SW.defer 6 (by repeat (first | refine NP.then ?_ | refine NP.inBlock ?_ | exact NP.body)) (by kernel_rfl) rfl (fun R => Ev.build (ps := [(0, (.tmp 11)), (1, (.tmp 14))]) (Opds.cons (Opd.mk rfl) (Opds.cons (Opd.mk rfl) Opds.nil)) (fun w => bld102_0_1 rfl rfl w)) (by kernel_rfl) rfl ?_
    refine SW.turn1 (i := 8) (by kernel_rfl) rfl ?_
    refine St.storeA (Opd.mk rfl) (Opd.mk rfl) sz102 (by first | simp only [List.length_cons, List.length_nil] | rfl) (by simp only [List.all_cons, List.all_nil, Bool.and_true, Bool.and_eq_true]; exact ⟨rfl, rfl⟩) ?_
    refine St.nil (St.then_normal ?_)
    refine SW.go ?_
    refine SW.done (by kernel_rfl) ?_
    refine St.then_normal ?_
    refine St.met (b11, b14, b3) trivial (by repeat (first | exact Sub.nil | refine Sub.cons (by first | rfl | exact congrArg (fun z => some (iv z)) (by first | omega | (dsimp only; omega)) | exact congrArg (fun z => some (Value.bool z)) (by first | assumption | exact Eq.symm (by assumption))) ?_)) (fun _ hw => hw.sub)
  ·skip
   refine St.alloc zc102 rfl (fun b3 => ?_)
   refine St.nil (St.then_normal ?_)
   refine SW.go ?_
   refine SW.turn2 (i := 2) (j := 5) (by kernel_rfl) rfl rfl ?_ ?_
   ·skip
    refine St.makeSl (m := ts.length) (.mk rfl) (.mk rfl) Tryd.underlying100 sz130 zv130 by130 rfl rfl (by omega) rfl rfl (fun b11 => ?_)
    refine St.rowEqN (.slice (some ⟨b11, 0, none⟩) ts.length ts.length) rfl (rowU_rep _) ?_
    refine St.nil (St.then_normal ?_)
    refine SW.go ?_
    refine SW.turn1 (i := 5) (by kernel_rfl) rfl ?_
    refine St.makeSl (m := ts.length) (.mk rfl) (.mk rfl) Tryd.underlying100 sz130 zv130 by130 rfl rfl (by omega) rfl rfl (fun b14 => ?_)
    refine St.rowEqN (.slice (some ⟨b14, 0, none⟩) ts.length ts.length) rfl (rowU_rep _) ?_
    refine St.nil (St.then_normal ?_)
    refine SW.go ?_
    refine SW.defer 6 (by repeat (first | refine NP.then ?_ | refine NP.inBlock ?_ | exact NP.body)) (by kernel_rfl) rfl (fun R => Ev.build (ps := [(0, (.tmp 11)), (1, (.tmp 14))]) (Opds.cons (Opd.mk rfl) (Opds.cons (Opd.mk rfl) Opds.nil)) (fun w => bld102_0_1 rfl rfl w)) (by kernel_rfl) rfl ?_
    refine SW.turn1 (i := 8) (by kernel_rfl) rfl ?_
    refine St.storeA (Opd.mk rfl) (Opd.mk rfl) sz102 (by first | simp only [List.length_cons, List.length_nil] | rfl) (by simp only [List.all_cons, List.all_nil, Bool.and_true, Bool.and_eq_true]; exact ⟨rfl, rfl⟩) ?_
    refine St.nil (St.then_normal ?_)
    refine SW.go ?_
    refine SW.done (by kernel_rfl) ?_
    refine St.then_normal ?_
    refine St.met (b11, b14, b3) trivial (by repeat (first | exact Sub.nil | refine Sub.cons (by first | rfl | exact congrArg (fun z => some (iv z)) (by first | omega | (dsimp only; omega)) | exact congrArg (fun z => some (Value.bool z)) (by first | assumption | exact Eq.symm (by assumption))) ?_)) (fun _ hw => hw.sub)
   ·skip
    refine St.makeSl (m := ts.length) (.mk rfl) (.mk rfl) Tryd.underlying100 sz130 zv130 by130 rfl rfl (by omega) rfl rfl (fun b14 => ?_)
    refine St.rowEqN (.slice (some ⟨b14, 0, none⟩) ts.length ts.length) rfl (rowU_rep _) ?_
    refine St.nil (St.then_normal ?_)
    refine SW.go ?_
    refine SW.turn1 (i := 2) (by kernel_rfl) rfl ?_
    refine St.makeSl (m := ts.length) (.mk rfl) (.mk rfl) Tryd.underlying100 sz130 zv130 by130 rfl rfl (by omega) rfl rfl (fun b11 => ?_)
    refine St.rowEqN (.slice (some ⟨b11, 0, none⟩) ts.length ts.length) rfl (rowU_rep _) ?_
    refine St.nil (St.then_normal ?_)
    refine SW.go ?_
    refine SW.defer 6 (by repeat (first | refine NP.then ?_ | refine NP.inBlock ?_ | exact NP.body)) (by kernel_rfl) rfl (fun R => Ev.build (ps := [(0, (.tmp 11)), (1, (.tmp 14))]) (Opds.cons (Opd.mk rfl) (Opds.cons (Opd.mk rfl) Opds.nil)) (fun w => bld102_0_1 rfl rfl w)) (by kernel_rfl) rfl ?_
    refine SW.turn1 (i := 8) (by kernel_rfl) rfl ?_
    refine St.storeA (Opd.mk rfl) (Opd.mk rfl) sz102 (by first | simp only [List.length_cons, List.length_nil] | rfl) (by simp only [List.all_cons, List.all_nil, Bool.and_true, Bool.and_eq_true]; exact ⟨rfl, rfl⟩) ?_
    refine St.nil (St.then_normal ?_)
    refine SW.go ?_
    refine SW.done (by kernel_rfl) ?_
    refine St.then_normal ?_
    refine St.met (b11, b14, b3) trivial (by repeat (first | exact Sub.nil | refine Sub.cons (by first | rfl | exact congrArg (fun z => some (iv z)) (by first | omega | (dsimp only; omega)) | exact congrArg (fun z => some (Value.bool z)) (by first | assumption | exact Eq.symm (by assumption))) ?_)) (fun _ hw => hw.sub)
 ·skip
  intro y hphi
  refine St.seq (St.seq (St.rg ?_))
  refine St.mv ?_
  refine St.ev _ (Ev.lensl (.mk rfl) Tryd.underlying22) rfl ?_
  refine St.mv ?_
  refine St.nil (St.then_normal (St.block ?_))
  refine St.loopH2 (ι := Nat) (κ := List Nat × List Nat) (fun k z T => (18, iv k) :: T) (fun k z => [blk y.2.2 (.cells [(.slice (some ⟨y.1, 0, none⟩) ts.length ts.length), (.slice (some ⟨y.2.1, 0, none⟩) ts.length ts.length)].toArray 102 (0, 0)), row (.slice (some ⟨y.1, 0, none⟩) ts.length ts.length) 130 1 ts.length (rows u64R z.1), row (.slice (some ⟨y.2.1, 0, none⟩) ts.length ts.length) 130 1 ts.length (rows u64R z.2), blk b2 (.cells [(.slice none 0 0), (.slice none 0 0)].toArray 102 (0, 0)), dat (sl tyR u ts), dat (dall tyD ts)]) (fun k z => k ≤ ts.length ∧ (z.1.length = ts.length ∧ ∀ i, i < k → z.1[i]? = some (upN (ts.map tyE) i)) ∧ (z.2.length = ts.length ∧ ∀ j, j < ts.length → z.2[j]? = some (dnAt (ts.map tyE) k j))) (fun k z => ts.length - k) 0 (List.replicate ts.length 0, List.replicate ts.length 0) (Keep.cons 0 rfl (Keep.cons 2 rfl (Keep.cons 3 rfl (Keep.cons 16 rfl (Keep.cons 17 rfl Keep.nil))))) ⟨Nat.zero_le _, ⟨List.length_replicate, fun i hi => absurd hi (by omega)⟩, List.length_replicate, fun j hj => by show (List.replicate ts.length 0)[j]? = _; rw [List.getElem?_replicate, if_pos hj]; rfl⟩ (by repeat (first | exact Sub.nil | refine Sub.cons (by first | rfl | exact congrArg (fun z => some (iv z)) (by first | omega | (dsimp only; omega)) | exact congrArg (fun z => some (Value.bool z)) (by first | assumption | exact Eq.symm (by assumption))) ?_)) (fun _ hw => hw.sub) ?_
  rintro k ⟨U, D⟩ ⟨hk, ⟨hUl, hU⟩, hDl, hD⟩
  dsimp only at hUl hU hDl hD ⊢
  refine St.seq (St.rg ?_)
  refine St.ev _ (Ev.lss (.mk rfl) (.mk rfl)) rfl ?_
  refine St.nil (St.then_normal (St.seq ?_))
  refine St.cond _ rfl (fun h19 => ?_) (fun h19 => ?_)
  ·skip
   try simp only [jbAll] at h19
   obtain ⟨t, ht⟩ := some_of_lt (show k < ts.length by omega)
   have htm := List.mem_of_getElem? ht
   have hTt : (ts.map tyE)[k]? = some (tyE t) := by rw [List.getElem?_map, ht]; rfl
   have hpar := hT.par k _ hTt
   refine St.dallAt tyD ts (x := t) htm ?_
   refine St.mkD (sl intR t.pv.1 t.parents) [tyD t] (fun ρ h => h _ (List.mem_cons_self ..)) ?_
   refine St.wf t.pv.1 (fun hpw hpl => ?_)
   refine St.skip (St.then_normal (St.seq (St.block (St.seq (St.rg ?_)))))
   refine St.mv ?_
   refine St.ev _ (Ev.idxaddr (k := k) (.mk rfl) (.mk rfl) Tryd.underlying22 sz113 (by omega) (by omega)) rfl ?_
   refine St.ev _ (Ev.ldA (.mk rfl) ht Tryd.underlying113 trivial sz113 Cel.eq) rfl ?_
   refine St.alloc zc113 rfl (fun b5 => ?_)
   refine St.asg ?_
   refine St.storeA (Opd.mk rfl) (Opd.mk rfl) sz113 (by first | simp only [List.length_cons, List.length_nil] | rfl) (by simp only [List.all_cons, List.all_nil, Bool.and_true, Bool.and_eq_true]; exact ⟨rfl, t.pv.2⟩) ?_
   refine St.nil (St.then_normal (St.seq ?_))
   refine St.parL [row (.slice (some ⟨y.1, 0, none⟩) ts.length ts.length) 130 1 ts.length (rows u64R U)] mixed ?_
   refine SW.defer 0 (by repeat (first | refine NP.then ?_ | refine NP.inBlock ?_ | exact NP.body)) (by kernel_rfl) rfl (fun R => Ev.fldb0 (.mk rfl) fo102_0) (by kernel_rfl) rfl ?_
   refine SW.defer 1 (by repeat (first | refine NP.then ?_ | refine NP.inBlock ?_ | exact NP.body)) (by kernel_rfl) rfl (fun R => Ev.ldb (.mk rfl) Tryd.underlying100 trivial (by rfl)) (by kernel_rfl) rfl ?_
   refine SW.defer 2 (by repeat (first | refine NP.then ?_ | refine NP.inBlock ?_ | exact NP.body)) (by kernel_rfl) rfl (fun R => Ev.move (.mk rfl)) (by kernel_rfl) rfl ?_
   refine SW.defer 3 (by repeat (first | refine NP.then ?_ | refine NP.inBlock ?_ | exact NP.body)) (by kernel_rfl) rfl (fun R => Ev.move (.mk rfl)) (by kernel_rfl) rfl ?_
   refine SW.defer 4 (by repeat (first | refine NP.then ?_ | refine NP.inBlock ?_ | exact NP.body)) (by kernel_rfl) rfl (fun R => Ev.bitK (k := k) (.mk rfl) (.mk rfl) (by omega)) (by kernel_rfl) rfl ?_
   refine SW.defer 5 (by repeat (first | refine NP.then ?_ | refine NP.inBlock ?_ | exact NP.body)) (by kernel_rfl) rfl (fun R => Ev.idxv (k := k) rfl (.mk rfl) (.mk rfl) Tryd.underlying100 sz130 (by omega) (by omega)) (by kernel_rfl) rfl ?_
   refine SW.turn1 (i := 6) (by kernel_rfl) rfl ?_
   refine St.storerow (.mk rfl) (.mk rfl) sz130 rfl (by omega) (by decide) ?_
   refine St.rowEqN (.slice (some ⟨y.1, 0, none⟩) ts.length ts.length) rfl rowU_set ?_
   refine St.nil (St.then_normal ?_)
   refine SW.go ?_
   refine SW.done (by kernel_rfl) ?_
   refine St.then_normal (St.seq (St.seq (St.rg ?_)))
   refine St.ev _ (Ev.fldb0 (.mk rfl) fo113_1) rfl ?_
   refine St.ev _ (Ev.ldb (.mk rfl) Tryd.underlying57 trivial (by rfl)) rfl ?_
   refine St.ev _ (Ev.lensl (.mk rfl) Tryd.underlying57) rfl ?_
   refine St.mv ?_
   refine St.nil (St.then_normal (St.block ?_))
   refine St.loopH2 (ι := Nat) (κ := List Nat) (fun q V T => (32, iv q) :: T) (fun q V => [row (.slice (some ⟨y.1, 0, none⟩) ts.length ts.length) 130 1 ts.length (rows u64R V), blk y.2.2 (.cells [(.slice (some ⟨y.1, 0, none⟩) ts.length ts.length), (.slice (some ⟨y.2.1, 0, none⟩) ts.length ts.length)].toArray 102 (0, 0)), row (.slice (some ⟨y.2.1, 0, none⟩) ts.length ts.length) 130 1 ts.length (rows u64R D), blk b2 (.cells [(.slice none 0 0), (.slice none 0 0)].toArray 102 (0, 0)), dat (sl intR t.pv.1 t.parents), dat (sl tyR u ts), dat (dall tyD ts)]) (fun q V => q ≤ t.parents.length ∧ V.length = ts.length ∧ (∀ i, i < k → V[i]? = some (upN (ts.map tyE) i)) ∧ V[k]? = some (upQ (ts.map tyE) k (t.parents.take q))) (fun q V => t.parents.length - q) 0 (U.set k (2 ^ k)) (Keep.cons 0 rfl (Keep.cons 2 rfl (Keep.cons 3 rfl (Keep.cons 4 rfl (Keep.cons 16 rfl (Keep.cons 17 rfl (Keep.cons 18 rfl (Keep.cons 30 rfl (Keep.cons 31 rfl Keep.nil))))))))) ⟨Nat.zero_le _, by rw [List.length_set]; exact hUl, fun i hi => by rw [List.getElem?_set_ne (by omega)]; exact hU i hi, by rw [List.getElem?_set_self (by omega)]; rfl⟩ (by repeat (first | exact Sub.nil | refine Sub.cons (by first | rfl | exact congrArg (fun z => some (iv z)) (by first | omega | (dsimp only; omega)) | exact congrArg (fun z => some (Value.bool z)) (by first | assumption | exact Eq.symm (by assumption))) ?_)) (fun _ hw => hw.sub) ?_
   rintro q V ⟨hq, hVl, hV, hVk⟩
   refine St.seq (St.rg ?_)
   refine St.ev _ (Ev.lss (.mk rfl) (.mk rfl)) rfl ?_
   refine St.nil (St.then_normal (St.seq ?_))
   refine St.cond _ rfl (fun h33 => ?_) (fun h33 => ?_)
   ·skip
    try simp only [jbAll] at h33
    obtain ⟨p, hp⟩ := some_of_lt (show q < t.parents.length by omega)
    have hpp := hpar p (List.mem_of_getElem? hp)
    refine St.skip (St.then_normal (St.seq (St.block (St.seq (St.rg ?_)))))
    refine St.ev _ (Ev.idxaddr (k := q) (.mk rfl) (.mk rfl) Tryd.underlying57 sz3 (by omega) (by omega)) rfl ?_
    refine St.ev _ (Ev.ld1 (.mk rfl) hp Tryd.underlying3 trivial rfl) rfl ?_
    refine St.asg ?_
    refine St.nil (St.then_normal ?_)
    refine St.parL [row (.slice (some ⟨y.1, 0, none⟩) ts.length ts.length) 130 1 ts.length (rows u64R V)] mixed ?_
    refine SW.defer 0 (by repeat (first | refine NP.then ?_ | refine NP.inBlock ?_ | exact NP.body)) (by kernel_rfl) rfl (fun R => Ev.fldb0 (.mk rfl) fo102_0) (by kernel_rfl) rfl ?_
    refine SW.defer 1 (by repeat (first | refine NP.then ?_ | refine NP.inBlock ?_ | exact NP.body)) (by kernel_rfl) rfl (fun R => Ev.ldb (.mk rfl) Tryd.underlying100 trivial (by rfl)) (by kernel_rfl) rfl ?_
    refine SW.defer 2 (by repeat (first | refine NP.then ?_ | refine NP.inBlock ?_ | exact NP.body)) (by kernel_rfl) rfl (fun R => Ev.move (.mk rfl)) (by kernel_rfl) rfl ?_
    refine SW.defer 3 (by repeat (first | refine NP.then ?_ | refine NP.inBlock ?_ | exact NP.body)) (by kernel_rfl) rfl (fun R => Ev.idxv (k := k) rfl (.mk rfl) (.mk rfl) Tryd.underlying100 sz130 (by omega) (by omega)) (by kernel_rfl) rfl ?_
    refine SW.defer 5 (by repeat (first | refine NP.then ?_ | refine NP.inBlock ?_ | exact NP.body)) (by kernel_rfl) rfl (fun R => Ev.fldb0 (.mk rfl) fo102_0) (by kernel_rfl) rfl ?_
    refine SW.defer 6 (by repeat (first | refine NP.then ?_ | refine NP.inBlock ?_ | exact NP.body)) (by kernel_rfl) rfl (fun R => Ev.ldb (.mk rfl) Tryd.underlying100 trivial (by rfl)) (by kernel_rfl) rfl ?_
    refine SW.defer 7 (by repeat (first | refine NP.then ?_ | refine NP.inBlock ?_ | exact NP.body)) (by kernel_rfl) rfl (fun R => Ev.move (.mk rfl)) (by kernel_rfl) rfl ?_
    refine SW.defer 8 (by repeat (first | refine NP.then ?_ | refine NP.inBlock ?_ | exact NP.body)) (by kernel_rfl) rfl (fun R => Ev.idxv (k := p.toNat) rfl (.mk rfl) (.mk rfl) Tryd.underlying100 sz130 (by omega) (by omega)) (by kernel_rfl) rfl ?_
    refine SW.turn2 (i := 4) (j := 9) (by kernel_rfl) rfl rfl ?_ ?_
    ·skip
     refine St.ev _ (Ev.ldrow (.mk rfl) Tryd.underlying130 trivial (by omega) (rowU_get hVk)) rfl ?_
     refine St.nil (St.then_normal ?_)
     refine SW.go ?_
     refine SW.turn1 (i := 9) (by kernel_rfl) rfl ?_
     refine St.ev _ (Ev.ldrow (.mk rfl) Tryd.underlying130 trivial (by omega) (rowU_get (hV p.toNat (by omega)))) rfl ?_
     refine St.nil (St.then_normal ?_)
     refine SW.go ?_
     refine SW.defer 10 (by repeat (first | refine NP.then ?_ | refine NP.inBlock ?_ | exact NP.body)) (by kernel_rfl) rfl (fun R => Ev.orG (.mk rfl) (.mk rfl) ⟨upQ_64 hT (by omega) (fun p hp => hpar p (List.mem_of_mem_take hp)), upN_64 hT (by omega)⟩) (by kernel_rfl) rfl ?_
     refine SW.defer 11 (by repeat (first | refine NP.then ?_ | refine NP.inBlock ?_ | exact NP.body)) (by kernel_rfl) rfl (fun R => Ev.idxv (k := k) rfl (.mk rfl) (.mk rfl) Tryd.underlying100 sz130 (by omega) (by omega)) (by kernel_rfl) rfl ?_
     refine SW.turn1 (i := 12) (by kernel_rfl) rfl ?_
     refine St.storerow (.mk rfl) (.mk rfl) sz130 rfl (by omega) (by decide) ?_
     refine St.rowEqN (.slice (some ⟨y.1, 0, none⟩) ts.length ts.length) rfl rowU_set ?_
     refine St.nil (St.then_normal ?_)
     refine SW.go ?_
     refine SW.done (by kernel_rfl) ?_
     refine St.in_normal (St.then_normal (St.rg ?_))
     refine St.ev _ (Ev.add (.mk rfl) (.mk rfl) (by omega)) rfl ?_
     refine St.mv ?_
     refine St.nil (St.then_normal ?_)
     refine St.againH2 (q + 1) (V.set k (upQ (ts.map tyE) k (t.parents.take q) ||| upN (ts.map tyE) p.toNat)) ⟨by omega, by rw [List.length_set]; exact hVl, fun i hi => by rw [List.getElem?_set_ne (by omega)]; exact hV i hi, by rw [List.getElem?_set_self (by omega), take_of_some hp, upQ_snoc]⟩ (by first | omega | (dsimp only; omega)) (by repeat (first | exact Sub.nil | refine Sub.cons (by first | rfl | exact congrArg (fun z => some (iv z)) (by first | omega | (dsimp only; omega)) | exact congrArg (fun z => some (Value.bool z)) (by first | assumption | exact Eq.symm (by assumption))) ?_)) (fun _ hw => hw.sub)
    ·skip
     refine St.ev _ (Ev.ldrow (.mk rfl) Tryd.underlying130 trivial (by omega) (rowU_get (hV p.toNat (by omega)))) rfl ?_
     refine St.nil (St.then_normal ?_)
     refine SW.go ?_
     refine SW.turn1 (i := 4) (by kernel_rfl) rfl ?_
     refine St.ev _ (Ev.ldrow (.mk rfl) Tryd.underlying130 trivial (by omega) (rowU_get hVk)) rfl ?_
     refine St.nil (St.then_normal ?_)
     refine SW.go ?_
     refine SW.defer 10 (by repeat (first | refine NP.then ?_ | refine NP.inBlock ?_ | exact NP.body)) (by kernel_rfl) rfl (fun R => Ev.orG (.mk rfl) (.mk rfl) ⟨upQ_64 hT (by omega) (fun p hp => hpar p (List.mem_of_mem_take hp)), upN_64 hT (by omega)⟩) (by kernel_rfl) rfl ?_
     refine SW.defer 11 (by repeat (first | refine NP.then ?_ | refine NP.inBlock ?_ | exact NP.body)) (by kernel_rfl) rfl (fun R => Ev.idxv (k := k) rfl (.mk rfl) (.mk rfl) Tryd.underlying100 sz130 (by omega) (by omega)) (by kernel_rfl) rfl ?_
     refine SW.turn1 (i := 12) (by kernel_rfl) rfl ?_
     refine St.storerow (.mk rfl) (.mk rfl) sz130 rfl (by omega) (by decide) ?_
     refine St.rowEqN (.slice (some ⟨y.1, 0, none⟩) ts.length ts.length) rfl rowU_set ?_
     refine St.nil (St.then_normal ?_)
     refine SW.go ?_
     refine SW.done (by kernel_rfl) ?_
     refine St.in_normal (St.then_normal (St.rg ?_))
     refine St.ev _ (Ev.add (.mk rfl) (.mk rfl) (by omega)) rfl ?_
     refine St.mv ?_
     refine St.nil (St.then_normal ?_)
     refine St.againH2 (q + 1) (V.set k (upQ (ts.map tyE) k (t.parents.take q) ||| upN (ts.map tyE) p.toNat)) ⟨by omega, by rw [List.length_set]; exact hVl, fun i hi => by rw [List.getElem?_set_ne (by omega)]; exact hV i hi, by rw [List.getElem?_set_self (by omega), take_of_some hp, upQ_snoc]⟩ (by first | omega | (dsimp only; omega)) (by repeat (first | exact Sub.nil | refine Sub.cons (by first | rfl | exact congrArg (fun z => some (iv z)) (by first | omega | (dsimp only; omega)) | exact congrArg (fun z => some (Value.bool z)) (by first | assumption | exact Eq.symm (by assumption))) ?_)) (fun _ hw => hw.sub)
   ·skip
    try simp only [jbAll] at h33
    rw [List.take_of_length_le (by omega)] at hVk
    replace hVk : V[k]? = some (upN (ts.map tyE) k) := by rw [upN_at hT hTt]; exact hVk
    refine St.exit (St.then_exit (St.then_exit (St.in_hit (St.then_normal (St.seq (St.rg ?_))))))
    refine St.mv ?_
    refine St.ev _ (Ev.lensl (.mk rfl) Tryd.underlying22) rfl ?_
    refine St.mv ?_
    refine St.nil (St.then_normal (St.block ?_))
    refine St.loopH2 (ι := Nat) (κ := List Nat) (fun q E T => (51, iv q) :: T) (fun q E => [row (.slice (some ⟨y.2.1, 0, none⟩) ts.length ts.length) 130 1 ts.length (rows u64R E), row (.slice (some ⟨y.1, 0, none⟩) ts.length ts.length) 130 1 ts.length (rows u64R V), blk y.2.2 (.cells [(.slice (some ⟨y.1, 0, none⟩) ts.length ts.length), (.slice (some ⟨y.2.1, 0, none⟩) ts.length ts.length)].toArray 102 (0, 0)), blk b2 (.cells [(.slice none 0 0), (.slice none 0 0)].toArray 102 (0, 0)), dat (sl tyR u ts), dat (dall tyD ts)]) (fun q E => q ≤ ts.length ∧ E.length = ts.length ∧ ∀ j, j < ts.length → E[j]? = some (if j < q then dnAt (ts.map tyE) (k + 1) j else dnAt (ts.map tyE) k j)) (fun q E => ts.length - q) 0 D (Keep.cons 0 rfl (Keep.cons 2 rfl (Keep.cons 3 rfl (Keep.cons 4 rfl (Keep.cons 16 rfl (Keep.cons 17 rfl (Keep.cons 18 rfl (Keep.cons 50 rfl Keep.nil)))))))) ⟨Nat.zero_le _, hDl, fun j hj => by rw [if_neg (by omega)]; exact hD j hj⟩ (by repeat (first | exact Sub.nil | refine Sub.cons (by first | rfl | exact congrArg (fun z => some (iv z)) (by first | omega | (dsimp only; omega)) | exact congrArg (fun z => some (Value.bool z)) (by first | assumption | exact Eq.symm (by assumption))) ?_)) (fun _ hw => hw.sub) ?_
    rintro q E ⟨hq, hEl, hE⟩
    refine St.seq (St.rg ?_)
    refine St.ev _ (Ev.lss (.mk rfl) (.mk rfl)) rfl ?_
    refine St.nil (St.then_normal (St.seq ?_))
    refine St.cond _ rfl (fun h52 => ?_) (fun h52 => ?_)
    ·skip
     try simp only [jbAll] at h52
     have hEq := hE q (by omega)
     rw [if_neg (by omega)] at hEq
     refine St.skip (St.then_normal (St.seq (St.block (St.seq (St.rg ?_)))))
     refine St.mv ?_
     refine St.asg ?_
     refine St.nil (St.then_normal (St.seq (St.rg ?_)))
     refine St.ev _ (Ev.fldb0 (.mk rfl) fo102_0) rfl ?_
     refine St.ev _ (Ev.ldb (.mk rfl) Tryd.underlying100 trivial (by rfl)) rfl ?_
     refine St.mv ?_
     refine St.ev _ (Ev.idxaddrrow (k := k) (.mk rfl) (.mk rfl) Tryd.underlying100 sz130 (by omega) (by omega)) rfl ?_
     refine St.ev _ (Ev.ldrow (.mk rfl) Tryd.underlying130 trivial (by omega) (rowU_get hVk)) rfl ?_
     refine St.mv ?_
     refine St.ev _ (Ev.shrU (q) _ rfl (.mk rfl) (.mk rfl) (by omega)) rfl ?_
     refine St.ev _ (Ev.andU (b := 1) 1 2 (by decide) (.mk rfl) (.mk rfl) (⟨(Nat.lt_of_le_of_lt (Nat.div_le_self _ _) (upN_64 hT (by omega))), by decide, by decide⟩)) rfl ?_
     refine St.ev _ (Ev.eql (.mk rfl) (.mk rfl)) rfl ?_
     refine St.slot 62 (.bool (subT (ts.map tyE) k q)) rfl (congrArg Value.bool (bit_dec _ _)) ?_
     refine St.nil (St.then_normal ?_)
     refine St.cond _ rfl (fun h62 => ?_) (fun h62 => ?_)
     ·skip
      skip
      refine St.parL [row (.slice (some ⟨y.2.1, 0, none⟩) ts.length ts.length) 130 1 ts.length (rows u64R E)] mixed ?_
      refine SW.defer 0 (by repeat (first | refine NP.then ?_ | refine NP.inBlock ?_ | exact NP.body)) (by kernel_rfl) rfl (fun R => Ev.fldb0 (.mk rfl) fo102_1) (by kernel_rfl) rfl ?_
      refine SW.defer 1 (by repeat (first | refine NP.then ?_ | refine NP.inBlock ?_ | exact NP.body)) (by kernel_rfl) rfl (fun R => Ev.ldb (.mk rfl) Tryd.underlying100 trivial (by rfl)) (by kernel_rfl) rfl ?_
      refine SW.defer 2 (by repeat (first | refine NP.then ?_ | refine NP.inBlock ?_ | exact NP.body)) (by kernel_rfl) rfl (fun R => Ev.move (.mk rfl)) (by kernel_rfl) rfl ?_
      refine SW.defer 3 (by repeat (first | refine NP.then ?_ | refine NP.inBlock ?_ | exact NP.body)) (by kernel_rfl) rfl (fun R => Ev.idxv (k := q) rfl (.mk rfl) (.mk rfl) Tryd.underlying100 sz130 (by omega) (by omega)) (by kernel_rfl) rfl ?_
      refine SW.defer 5 (by repeat (first | refine NP.then ?_ | refine NP.inBlock ?_ | exact NP.body)) (by kernel_rfl) rfl (fun R => Ev.move (.mk rfl)) (by kernel_rfl) rfl ?_
      refine SW.defer 6 (by repeat (first | refine NP.then ?_ | refine NP.inBlock ?_ | exact NP.body)) (by kernel_rfl) rfl (fun R => Ev.bitK (k := k) (.mk rfl) (.mk rfl) (by omega)) (by kernel_rfl) rfl ?_
      refine SW.turn1 (i := 4) (by kernel_rfl) rfl ?_
      refine St.ev _ (Ev.ldrow (.mk rfl) Tryd.underlying130 trivial (by omega) (rowU_get hEq)) rfl ?_
      refine St.nil (St.then_normal ?_)
      refine SW.go ?_
      refine SW.defer 7 (by repeat (first | refine NP.then ?_ | refine NP.inBlock ?_ | exact NP.body)) (by kernel_rfl) rfl (fun R => Ev.orG (.mk rfl) (.mk rfl) ⟨dnAt_64 _ _ (by omega), (show 2 ^ k < 2 ^ 64 from Nat.pow_lt_pow_right (by decide) (by omega))⟩) (by kernel_rfl) rfl ?_
      refine SW.defer 8 (by repeat (first | refine NP.then ?_ | refine NP.inBlock ?_ | exact NP.body)) (by kernel_rfl) rfl (fun R => Ev.idxv (k := q) rfl (.mk rfl) (.mk rfl) Tryd.underlying100 sz130 (by omega) (by omega)) (by kernel_rfl) rfl ?_
      refine SW.turn1 (i := 9) (by kernel_rfl) rfl ?_
      refine St.storerow (.mk rfl) (.mk rfl) sz130 rfl (by omega) (by decide) ?_
      refine St.rowEqN (.slice (some ⟨y.2.1, 0, none⟩) ts.length ts.length) rfl rowU_set ?_
      refine St.nil (St.then_normal ?_)
      refine SW.go ?_
      refine SW.done (by kernel_rfl) ?_
      refine St.in_normal (St.then_normal (St.rg ?_))
      refine St.ev _ (Ev.add (.mk rfl) (.mk rfl) (by omega)) rfl ?_
      refine St.mv ?_
      refine St.nil (St.then_normal ?_)
      refine St.againH2 (q + 1) (E.set q (dnAt (ts.map tyE) k q ||| 2 ^ k)) ⟨by omega, by rw [List.length_set]; exact hEl, dn_step hE hEl (by omega) h62⟩ (by first | omega | (dsimp only; omega)) (by repeat (first | exact Sub.nil | refine Sub.cons (by first | rfl | exact congrArg (fun z => some (iv z)) (by first | omega | (dsimp only; omega)) | exact congrArg (fun z => some (Value.bool z)) (by first | assumption | exact Eq.symm (by assumption))) ?_)) (fun _ hw => hw.sub)
     ·skip
      skip
      refine St.skip (St.in_normal (St.then_normal (St.rg ?_)))
      refine St.ev _ (Ev.add (.mk rfl) (.mk rfl) (by omega)) rfl ?_
      refine St.mv ?_
      refine St.nil (St.then_normal ?_)
      refine St.againH2 (q + 1) E ⟨by omega, hEl, dn_skip hE h62⟩ (by first | omega | (dsimp only; omega)) (by repeat (first | exact Sub.nil | refine Sub.cons (by first | rfl | exact congrArg (fun z => some (iv z)) (by first | omega | (dsimp only; omega)) | exact congrArg (fun z => some (Value.bool z)) (by first | assumption | exact Eq.symm (by assumption))) ?_)) (fun _ hw => hw.sub)
    ·skip
     try simp only [jbAll] at h52
     obtain rfl : q = ts.length := by omega
     replace hE : ∀ j, j < ts.length → E[j]? = some (dnAt (ts.map tyE) (k + 1) j) := fun j hj => by rw [hE j hj, if_pos hj]
     refine St.exit (St.then_exit (St.then_exit (St.in_hit (St.in_normal (St.then_normal (St.rg ?_))))))
     refine St.ev _ (Ev.add (.mk rfl) (.mk rfl) (by omega)) rfl ?_
     refine St.mv ?_
     refine St.nil (St.then_normal ?_)
     refine St.againH2 (k + 1) (V, E) ⟨by omega, ⟨hVl, fun i hi => by rcases Nat.lt_or_ge i k with h | h; exact hV i h; rw [show i = k by omega]; exact hVk⟩, hEl, hE⟩ (by first | omega | (dsimp only; omega)) (by repeat (first | exact Sub.nil | refine Sub.cons (by first | rfl | exact congrArg (fun z => some (iv z)) (by first | omega | (dsimp only; omega)) | exact congrArg (fun z => some (Value.bool z)) (by first | assumption | exact Eq.symm (by assumption))) ?_)) (fun _ hw => hw.sub)
  ·skip
   try simp only [jbAll] at h19
   obtain rfl : k = ts.length := by omega
   refine St.exit (St.then_exit (St.then_exit (St.in_hit (St.then_normal (St.seq (St.rg ?_))))))
   refine St.ev _ (Ev.ldbA (.mk rfl) Tryd.underlying102 trivial (by exact sz102)) rfl ?_
   refine St.storeA (Opd.mk rfl) (Opd.mk rfl) sz102 (by first | simp only [List.length_cons, List.length_nil] | rfl) (by simp only [List.all_cons, List.all_nil, Bool.and_true, Bool.and_eq_true]; exact ⟨rfl, rfl⟩) ?_
   refine St.nil (St.then_normal (St.rett ?_))
   have hU2 : U = upsL (ts.map tyE) := by unfold upsL; rw [List.length_map]; exact list_range hUl hU
   have hD2 : D = dnsL (ts.map tyE) := by unfold dnsL; rw [List.length_map]; exact list_range hDl hD
   refine St.publish (.slice (some ⟨y.1, 0, none⟩) ts.length ts.length) u64R U rfl hUl.symm (fun a ha => by obtain ⟨i, hi, rfl⟩ := List.mem_map.1 (hU2 ▸ ha); exact upN_64 hT (by have := List.mem_range.1 hi; rw [List.length_map] at this; omega)) ?_
   refine St.publish (.slice (some ⟨y.2.1, 0, none⟩) ts.length ts.length) u64R D rfl hDl.symm (fun a ha => by obtain ⟨i, hi, rfl⟩ := List.mem_map.1 (hD2 ▸ ha); exact dnAt_64 _ _ (by rw [List.length_map]; omega)) ?_
   rw [hU2, hD2]
   refine St.rets [_] [dat (sl u64R (.slice (some ⟨y.1, 0, none⟩) ts.length ts.length) (upsL (ts.map tyE))), dat (sl u64R (.slice (some ⟨y.2.1, 0, none⟩) ts.length ts.length) (dnsL (ts.map tyE)))] Tryd.results39 ⟨⟨_, _, _, _, rfl, InB.mem, .inl ⟨⟨_, Tryd.underlying102⟩, sz102, rfl⟩⟩, trivial⟩ ?_ (fun _ hw => hw.sub)
   exact ⟨⟨(.slice (some ⟨y.1, 0, none⟩) ts.length ts.length), rfl⟩, ⟨(.slice (some ⟨y.2.1, 0, none⟩) ts.length ts.length), rfl⟩, rfl, rfl⟩
end Go.Proofs.YtolmidffiegkaaaDoor

/-
  (YtolmidffiegkaaaDoorQTz)
  The count of trailing zeros, laid at this program.
  Conditions: none.
-/
namespace Go.Proofs
open Go.Shelf
def Tryd.laysTz_ren : Go.Shelf.Ren := ⟨fun | 29 => 65 | n => n, fun | 0 => 0 | 3 => 3 | 4 => 4 | 5 => 5 | 22 => 130 | 25 => 154 | 54 => 159 | n => n, fun | 1 => 3 | n => n⟩
theorem Tryd.laysTz : Go.Proofs.Lays7.n29 Tryd.prog Tryd.laysTz_ren := {
 mixed := by kernel_rfl
 f29 := Tryd.func65.trans (congrArg some (by kernel_rfl))
 t0 := Tryd.underlying0
 a0 := Tryd.isAgg0
 z0 := Tryd.sizeOf0
 v0 := Tryd.zeroValue0
 i0 := by kernel_rfl
 t3 := Tryd.underlying3
 a3 := Tryd.isAgg3
 z3 := Tryd.sizeOf3
 v3 := Tryd.zeroValue3
 i3 := by kernel_rfl
 t4 := Tryd.underlying4
 a4 := Tryd.isAgg4
 z4 := Tryd.sizeOf4
 v4 := Tryd.zeroValue4
 i4 := by kernel_rfl
 t5 := Tryd.underlying5
 a5 := Tryd.isAgg5
 z5 := Tryd.sizeOf5
 v5 := Tryd.zeroValue5
 i5 := by kernel_rfl
 t22 := Tryd.underlying130
 a22 := Tryd.isAgg130
 z22 := Tryd.sizeOf130
 v22 := Tryd.zeroValue130
 i22 := by kernel_rfl
 t25 := Tryd.underlying154
 a25 := Tryd.isAgg154
 z25 := Tryd.sizeOf154
 v25 := Tryd.zeroValue154
 i25 := by kernel_rfl
 t54 := Tryd.underlying159
 a54 := Tryd.isAgg159
 z54 := Tryd.sizeOf159
 g1 := by kernel_rfl }
end Go.Proofs
namespace Go.Proofs.YtolmidffiegkaaaDoor
open Go Go.J
abbrev tz : Dat := Dat.of (TabAt 3 Lib.deBruijn64tab)
theorem FnV.of_same {P : Program} {f : FuncId} {args : Array Value} {X : World → Prop} {v : Value} (h : ∀ w, X w → Calls P f args w fun e w' => e = .returned v ∧ w' = w) : FnV P f args [Dat.of X] v := by
 intro w ρ hs
 have hx : X w := dat_ok.1 (hs.ents (dat (Dat.of X)) (List.mem_cons_self ..)) w hs.fits
 refine (h w hx).mono ?_
 rintro e w' ⟨rfl, rfl⟩
 exact ⟨v, [], rfl, rfl, Mm.mk (ρ := ρ) ⟨rfl, ⟨rfl, fun _ => Nat.le_refl _⟩, rfl, Nat.le_refl _, fun _ _ _ => rfl, hs.fits, Ro.le_refl _, fun _ _ _ => rfl, fun _ h => by simp at h, fun _ h => by simp at h, .nil⟩⟩
theorem tz_spec (x : Nat) (hx : x < 18446744073709551616) : FnV Tryd.prog 65 #[uv x] [tz] (iv (Lib.ctz 64 x)) :=
 FnV.of_same fun w hw => Any7.bits_TrailingZeros64 Tryd.laysTz x hx w (fun _ => hw)
end Go.Proofs.YtolmidffiegkaaaDoor

/-
  (YtolmidffiegkaaaDoorQ13)
  The walks of what asks the tables of types.
  Conditions: none beyond the sizes.
-/
set_option maxRecDepth 20000
set_option linter.unusedSimpArgs false
set_option linter.unusedVariables false
namespace Go.Proofs.YtolmidffiegkaaaDoor
open Go Go.J
theorem ctz_bits {x : Nat} (h0 : x ≠ 0) (h : x < 18446744073709551616) : x.testBit (Lib.ctz 64 x) = true ∧ ∀ i, i < Lib.ctz 64 x → x.testBit i = false := by
 obtain ⟨m, hm, _⟩ := Lib.ctzFrom_spec 64 x (by omega) h
 have e : Lib.ctz 64 x = Lib.ctzFrom 64 x := by unfold Lib.ctz; rw [if_neg h0]
 rw [e]
 generalize Lib.ctzFrom 64 x = k at hm
 subst hm
 refine ⟨?_, fun i hi => ?_⟩
 ·rw [Nat.testBit_two_pow_mul, Nat.sub_self, decide_eq_true (Nat.le_refl k), Bool.true_and, Nat.testBit_zero]
  exact decide_eq_true (by omega)
 ·rw [Nat.testBit_two_pow_mul, decide_eq_false (by omega), Bool.false_and]
abbrev tabV (w1 w2 : OneV) : Value := .agg #[w1.1, w2.1]
theorem Sub_spec (w1 w2 : OneV) (T : List Ty0) (hT : TyOK T) (i j : Nat) (hi : i < T.length) (hj : j < T.length) : FnV Tryd.prog 57 #[tabV w1 w2, iv i, iv j] [sl u64R w1.1 (upsL T), sl u64R w2.1 (dnsL T)] (.bool (subT T i j)) := by
 refine FnV.body2 (args := [tabV w1 w2, iv i, iv j]) 16 Tryd.func57 rfl Tryd.ntmps57 rfl (fun c => ?_)
 refine St.seq ?_
 have hl60 := hT.len
 have hul := upsL_len T
 refine St.rg ?_
 refine St.boxA (.mk rfl) rfl (fun b3 => ?_)
 refine St.asg ?_
 refine St.nil (St.then_normal (St.seq (St.rg ?_)))
 refine St.ev _ (Ev.fldb0 (.mk rfl) fo102_0) rfl ?_
 refine St.ev _ (Ev.ldb (.mk rfl) Tryd.underlying100 trivial (by rfl)) rfl ?_
 refine St.mv ?_
 refine St.ev _ (Ev.idxaddr (k := i) (.mk rfl) (.mk rfl) Tryd.underlying100 sz130 (by omega) (by omega)) rfl ?_
 refine St.ev _ (Ev.ld1 (.mk rfl) (upsL_get hi) Tryd.underlying130 trivial rfl) rfl ?_
 refine St.mv ?_
 refine St.ev _ (Ev.shrU (j) _ rfl (.mk rfl) (.mk rfl) (by omega)) rfl ?_
 refine St.ev _ (Ev.andU (b := 1) 1 2 (by decide) (.mk rfl) (.mk rfl) (⟨(Nat.lt_of_le_of_lt (Nat.div_le_self _ _) (upN_64 hT (by omega))), by decide, by decide⟩)) rfl ?_
 refine St.ev _ (Ev.eql (.mk rfl) (.mk rfl)) rfl ?_
 refine St.slot 15 (.bool (subT T i j)) rfl (congrArg Value.bool (bit_dec _ _)) ?_
 refine St.asg ?_
 refine St.nil (St.then_normal (St.rett ?_))
 refine St.rets [_] [] Tryd.results57 ⟨rfl, trivial⟩ ?_ (fun _ hw => hw.sub)
 rfl
theorem Meet_spec (w1 w2 : OneV) (T : List Ty0) (hT : TyOK T) (a b : Nat) (ha : a < T.length) (hb : b < T.length) : FnH Tryd.prog 53 #[tabV w1 w2, iv a, iv b] ([sl u64R w1.1 (upsL T), sl u64R w2.1 (dnsL T), tz].map dat) (fun v H' => ∃ (m : Int) (ok : Bool), v = .tuple #[iv m, .bool ok, .bool (wrongT T a b)] ∧ H' = []) := by
 refine FnH.body (args := [tabV w1 w2, iv a, iv b]) 33 Tryd.func53 rfl Tryd.ntmps53 rfl (fun c => ?_)
 refine St.cast (H' := [dat (sl u64R w1.1 (upsL T)), dat (sl u64R w2.1 (dnsL T)), dat (tz)]) rfl ?_
 refine St.seq ?_
 have hl60 := hT.len
 have hdl := dnsL_len T
 refine St.rg ?_
 refine St.boxA (.mk rfl) rfl (fun b3 => ?_)
 refine St.asg ?_
 refine St.asg ?_
 refine St.asg ?_
 refine St.nil (St.then_normal (St.seq ?_))
 refine St.rq mixed (by kernel_rfl) (Mm.drawn _ _) ?_
 refine Sq.ev _ (Ev.fldb0 (.mk rfl) fo102_1) rfl ?_
 refine Sq.ev _ (Ev.ldb (.mk rfl) Tryd.underlying100 trivial (by rfl)) rfl ?_
 refine Sq.ev _ (Ev.move (.mk rfl)) rfl ?_
 refine Sq.ev _ (Ev.idxaddr (k := a) (.mk rfl) (.mk rfl) Tryd.underlying100 sz130 (by omega) (by omega)) rfl ?_
 refine Sq.ev _ (Ev.ld1 (.mk rfl) (dnsL_get ha) Tryd.underlying130 trivial rfl) rfl ?_
 refine Sq.ev _ (Ev.fldb0 (.mk rfl) fo102_1) rfl ?_
 refine Sq.ev _ (Ev.ldb (.mk rfl) Tryd.underlying100 trivial (by rfl)) rfl ?_
 refine Sq.ev _ (Ev.move (.mk rfl)) rfl ?_
 refine Sq.ev _ (Ev.idxaddr (k := b) (.mk rfl) (.mk rfl) Tryd.underlying100 sz130 (by omega) (by omega)) rfl ?_
 refine Sq.ev _ (Ev.ld1 (.mk rfl) (dnsL_get hb) Tryd.underlying130 trivial rfl) rfl ?_
 refine Sq.ev _ (Ev.andG (.mk rfl) (.mk rfl) ⟨dnAt_64 _ _ hl60, dnAt_64 _ _ hl60⟩) rfl ?_
 refine Sq.ev _ (Ev.assign (.mk rfl)) rfl ?_
 refine Sq.nil ?_
 refine St.then_normal (St.seq (St.seq ?_))
 refine St.slot 9 (uv (both T a b)) rfl rfl ?_
 have h64 : both T a b < 18446744073709551616 := Nat.lt_of_le_of_lt Nat.and_le_left (dnAt_64 _ _ hl60)
 refine St.rg ?_
 refine St.mv ?_
 refine St.ev _ (Ev.eql (.mk rfl) (.mk rfl)) rfl ?_
 refine St.nil (St.then_normal ?_)
 refine St.cond _ rfl (fun h22 => ?_) (fun h22 => ?_)
 ·skip
  try simp only [jbAll] at h22
  have h0 : both T a b = 0 := by omega
  refine St.seq (St.rg ?_)
  refine St.asg ?_
  refine St.asg ?_
  refine St.asg ?_
  refine St.nil (St.then_normal (St.rett (St.then_ret ?_)))
  refine St.rets [_, _, _] [] Tryd.results53 ⟨rfl, ⟨rfl, ⟨rfl, trivial⟩⟩⟩ ?_ (fun _ hw => hw.sub)
  exact ⟨0, false, by rw [wrong_none h0]; rfl, rfl⟩
 ·skip
  try simp only [jbAll] at h22
  have h0 : both T a b ≠ 0 := by omega
  obtain ⟨hc1, hc2⟩ := ctz_bits h0 h64
  have hcl : Lib.ctz 64 (both T a b) < T.length := by rw [both_bit, Bool.and_eq_true, decide_eq_true_eq] at hc1; exact hc1.1
  have hwr := wrong_at hT hc1 hc2
  refine St.skip (St.then_normal (St.seq (St.rg ?_)))
  refine St.mv ?_
  refine St.ev _ (Ev.call (tz_spec (both T a b) h64) cb65 (.cons (.mk rfl) .nil)) rfl ?_
  refine St.asg ?_
  refine St.nil (St.then_normal (St.seq (St.seq (St.rg ?_))))
  refine St.ev _ (Ev.fldb0 (.mk rfl) fo102_1) rfl ?_
  refine St.ev _ (Ev.ldb (.mk rfl) Tryd.underlying100 trivial (by rfl)) rfl ?_
  refine St.mv ?_
  refine St.ev _ (Ev.idxaddr (k := (Lib.ctz 64 (both T a b))) (.mk rfl) (.mk rfl) Tryd.underlying100 sz130 (by omega) (by omega)) rfl ?_
  refine St.ev _ (Ev.ld1 (.mk rfl) (dnsL_get hcl) Tryd.underlying130 trivial rfl) rfl ?_
  refine St.mv ?_
  refine St.ev _ (Ev.neq (.mk rfl) (.mk rfl)) rfl ?_
  refine St.nil (St.then_normal ?_)
  refine St.cond _ rfl (fun h31 => ?_) (fun h31 => ?_)
  ·skip
   try simp only [jbAll] at h31
   rw [decide_eq_true (by omega)] at hwr
   refine St.seq (St.rg ?_)
   refine St.asg ?_
   refine St.asg ?_
   refine St.asg ?_
   refine St.nil (St.then_normal (St.rett (St.then_ret ?_)))
   refine St.rets [_, _, _] [] Tryd.results53 ⟨rfl, ⟨rfl, ⟨rfl, trivial⟩⟩⟩ ?_ (fun _ hw => hw.sub)
   exact ⟨0, false, by rw [hwr]; rfl, rfl⟩
  ·skip
   try simp only [jbAll] at h31
   rw [decide_eq_false (by omega)] at hwr
   refine St.skip (St.then_normal (St.seq (St.rg ?_)))
   refine St.mv ?_
   refine St.asg ?_
   refine St.asg ?_
   refine St.asg ?_
   refine St.nil (St.then_normal (St.rett ?_))
   refine St.rets [_, _, _] [] Tryd.results53 ⟨rfl, ⟨rfl, ⟨rfl, trivial⟩⟩⟩ ?_ (fun _ hw => hw.sub)
   exact ⟨(Lib.ctz 64 (both T a b) : Nat), true, by rw [hwr]; rfl, rfl⟩
end Go.Proofs.YtolmidffiegkaaaDoor

/-
  (YtolmidffiegkaaaDoorQ14)
  The walk of the check of hierarchies.
  Conditions: none beyond the sizes.
-/
set_option maxRecDepth 20000
set_option linter.unusedSimpArgs false
set_option linter.unusedVariables false
namespace Go.Proofs.YtolmidffiegkaaaDoor
open Go Go.J
theorem unmet_at {T : List Ty0} {q k : Nat} (hk : k < T.length) (hq : q < k) (h : wrongT T q k = true) (hb : ∀ b, b < k → (List.range b).any (fun a => wrongT T a b) = false) : unmet T = some k := by
 unfold unmet
 rw [List.find?_range_eq_some]
 refine ⟨List.any_eq_true.2 ⟨q, List.mem_range.2 hq, h⟩, List.mem_range.2 hk, fun j hj => by rw [hb j hj]; rfl⟩
theorem unmet_no {T : List Ty0} (hb : ∀ b, b < T.length → (List.range b).any (fun a => wrongT T a b) = false) : unmet T = none := by
 unfold unmet
 rw [List.find?_eq_none]
 intro b h; rw [hb b (List.mem_range.1 h)]; decide
theorem any_range_no {p : Nat → Bool} {n : Nat} (h : ∀ a, a < n → p a = false) : (List.range n).any p = false := by
 rw [List.any_eq_false]; intro a ha; rw [h a (List.mem_range.1 ha)]; decide
theorem ftFrom_drop {n : Int} {l : List Ft0} {k : Nat} {t : Ft0} (ht : l[k]? = some t) (known : List Str) : ftFrom n known k (l.drop k) = if isName t.1 = false then (10, (k : Int)) else if t.1 ∈ known then (7, (k : Int)) else if t.2.1 < 0 ∨ n ≤ t.2.1 ∨ t.2.2 < 0 ∨ n ≤ t.2.2 then (3, (k : Int))
  else ftFrom n (known ++ [t.1]) (k + 1) (l.drop (k + 1)) := by rw [drop_of_some ht, ftFrom]
theorem ftFrom_end {n : Int} {l : List Ft0} {k : Nat} (h : l.length ≤ k) (known : List Str) : ftFrom n known k (l.drop k) = (0, 0) := by rw [List.drop_of_length_le h, ftFrom]
theorem hierF_len {T : List Ty0} {Fs : List Ft0} (h : T.length = 0 ∨ 60 < T.length ∨ 40 < Fs.length) : hierF T Fs = (2, -1) := by
 unfold hierF
 by_cases h1 : 40 < Fs.length
 ·rw [if_pos h1]
 ·have e : tyF T = (2, -1) := by unfold tyF; rw [if_pos (by omega)]
  rw [if_neg h1, e]; rfl
theorem hierF_ty {T : List Ty0} {Fs : List Ft0} (h : ¬ 40 < Fs.length) (h2 : (tyF T).1 ≠ 0) : hierF T Fs = tyF T := by unfold hierF; rw [if_neg h, if_pos h2]
theorem hierF_un {T : List Ty0} {Fs : List Ft0} {b : Nat} (h : ¬ 40 < Fs.length) (h2 : ¬ (tyF T).1 ≠ 0) (h3 : unmet T = some b) : hierF T Fs = (16, (b : Int)) := by unfold hierF; rw [if_neg h, if_neg h2, h3]
theorem hierF_ft {T : List Ty0} {Fs : List Ft0} (h : ¬ 40 < Fs.length) (h2 : ¬ (tyF T).1 ≠ 0) (h3 : unmet T = none) : hierF T Fs = ftFrom T.length [] 0 Fs := by unfold hierF; rw [if_neg h, if_neg h2, h3]
set_option maxHeartbeats 2000000 in
theorem hierVal_spec (tv xv : OneV) (ts : List TyD) (fs : List FeatD) : FnV Tryd.prog 37 #[.agg #[tv.1, xv.1]] [sl tyR tv.1 ts, dall tyD ts, sl featR xv.1 fs, tz] (fv (hierF (ts.map tyE) (fs.map ftE))) := by
 refine FnV.body4 (args := [.agg #[tv.1, xv.1]]) 122 Tryd.func37 rfl Tryd.ntmps37 rfl (fun c => ?_)
 refine St.seq ?_
 have hTl : (ts.map tyE).length = ts.length := List.length_map ..
 have hFl : (fs.map ftE).length = fs.length := List.length_map ..
 refine St.wf tv.1 (fun htw htl => ?_)
 refine St.wf xv.1 (fun hfw hfl => ?_)
 refine St.rg ?_
 refine St.boxA (.mk rfl) rfl (fun b1 => ?_)
 refine St.alloc zc42 rfl (fun b2 => ?_)
 refine St.nil (St.then_normal (St.seq (St.seq (St.rg ?_))))
 refine St.ev _ (Ev.fldb0 (.mk rfl) fo25_0) rfl ?_
 refine St.ev _ (Ev.ldb (.mk rfl) Tryd.underlying22 trivial (by rfl)) rfl ?_
 refine St.ev _ (Ev.lensl (.mk rfl) Tryd.underlying22) rfl ?_
 refine St.ev _ (Ev.eql (.mk rfl) (.mk rfl)) rfl ?_
 refine St.mv ?_
 refine St.gf _ rfl rfl (fun hg => Ev.fldb0 (.mk rfl) fo25_0) rfl ?_
 refine St.gf _ rfl rfl (fun hg => Ev.ldb (Opd.gv rfl hg) Tryd.underlying22 trivial (by rfl)) rfl ?_
 refine St.gf _ rfl rfl (fun hg => Ev.lensl (Opd.gv rfl hg) Tryd.underlying22) rfl ?_
 refine St.gf _ rfl rfl (fun hg => Ev.gtr (Opd.gv rfl hg) (.mk rfl)) rfl ?_
 refine St.ev _ (Ev.or (.mk rfl) (fun hp => Opd.gv rfl hp)) rfl ?_
 refine St.mv ?_
 refine St.gf _ rfl rfl (fun hg => Ev.fldb0 (.mk rfl) fo25_1) rfl ?_
 refine St.gf _ rfl rfl (fun hg => Ev.ldb (Opd.gv rfl hg) Tryd.underlying23 trivial (by rfl)) rfl ?_
 refine St.gf _ rfl rfl (fun hg => Ev.lensl (Opd.gv rfl hg) Tryd.underlying23) rfl ?_
 refine St.gf _ rfl rfl (fun hg => Ev.gtr (Opd.gv rfl hg) (.mk rfl)) rfl ?_
 refine St.ev _ (Ev.or (.mk rfl) (fun hp => Opd.gv rfl hp)) rfl ?_
 refine St.nil (St.then_normal ?_)
 refine St.cond _ rfl (fun h30 => ?_) (fun h30 => ?_)
 ·skip
  try simp only [jbAll] at h30
  have hf : hierF (ts.map tyE) (fs.map ftE) = (2, -1) := hierF_len (by omega)
  refine St.seq (St.rg ?_)
  refine St.ev _ (Ev.call (hierarchyFault_spec 2 (-1)) cb51 (.cons (.mk rfl) (.cons (.mk rfl) .nil))) rfl ?_
  refine St.storeA (Opd.mk rfl) (Opd.mk rfl) sz42 (by first | simp only [List.length_cons, List.length_nil] | rfl) rfl ?_
  refine St.nil (St.then_normal (St.rett (St.then_ret ?_)))
  refine St.rets [_] [] Tryd.results37 ⟨⟨_, _, _, _, rfl, InB.mem, .inl ⟨⟨_, Tryd.underlying42⟩, sz42, rfl⟩⟩, trivial⟩ ?_ (fun _ hw => hw.sub)
  exact congrArg fv hf.symm
 ·skip
  try simp only [jbAll] at h30
  have h40 : ¬ 40 < (fs.map ftE).length := by omega
  refine St.skip (St.then_normal (St.seq (St.seq (St.rg ?_))))
  refine St.ev _ (Ev.fldb0 (.mk rfl) fo25_0) rfl ?_
  refine St.ev _ (Ev.ldb (.mk rfl) Tryd.underlying22 trivial (by rfl)) rfl ?_
  refine St.ev _ (Ev.call (Types_spec tv.1 ts) cb52 (.cons (.mk rfl) .nil)) rfl ?_
  refine St.alloc zc42 rfl (fun b3 => ?_)
  refine St.storeA (Opd.mk rfl) (Opd.mk rfl) sz42 (by first | simp only [List.length_cons, List.length_nil] | rfl) rfl ?_
  refine St.nil (St.then_normal (St.seq (St.rg ?_)))
  refine St.ev _ (Ev.fldb0 (.mk rfl) fo42_0) rfl ?_
  refine St.ev _ (Ev.ldb (.mk rfl) Tryd.underlying3 trivial (by rfl)) rfl ?_
  refine St.ev _ (Ev.neq (.mk rfl) (.mk rfl)) rfl ?_
  refine St.nil (St.then_normal ?_)
  refine St.cond _ rfl (fun h37 => ?_) (fun h37 => ?_)
  ·skip
   skip
   have hb : (tyF (ts.map tyE)).1 ≠ 0 := by simpa using h37
   refine St.seq (St.rg ?_)
   refine St.ev _ (Ev.ldbA (.mk rfl) Tryd.underlying42 trivial (by exact sz42)) rfl ?_
   refine St.storeA (Opd.mk rfl) (Opd.mk rfl) sz42 (by first | simp only [List.length_cons, List.length_nil] | rfl) rfl ?_
   refine St.nil (St.then_normal (St.rett (St.then_ret ?_)))
   refine St.rets [_] [] Tryd.results37 ⟨⟨_, _, _, _, rfl, InB.mem, .inl ⟨⟨_, Tryd.underlying42⟩, sz42, rfl⟩⟩, trivial⟩ ?_ (fun _ hw => hw.sub)
   exact congrArg fv (hierF_ty h40 hb).symm
  ·skip
   skip
   have hb : ¬ (tyF (ts.map tyE)).1 ≠ 0 := by simpa using h37
   have hT := (tyF_ok (Decidable.not_not.1 hb)).2.2
   have hl60 := hT.len
   refine St.skip (St.then_normal (St.seq (St.rg ?_)))
   refine St.ev _ (Ev.fldb0 (.mk rfl) fo25_0) rfl ?_
   refine St.ev _ (Ev.ldb (.mk rfl) Tryd.underlying22 trivial (by rfl)) rfl ?_
   refine St.calld (Tables_spec tv.1 ts hT) cb39 (.cons (.mk rfl) .nil) rfl ?_
   rintro v41 _ ⟨w1, w2, rfl, rfl⟩
   refine St.app2 ?_
   refine St.alloc zc102 rfl (fun b4 => ?_)
   refine St.storeA (Opd.mk rfl) (Opd.mk rfl) sz102 (by first | simp only [List.length_cons, List.length_nil] | rfl) (by simp only [List.all_cons, List.all_nil, Bool.and_true, Bool.and_eq_true]; exact ⟨w1.2, w2.2⟩) ?_
   refine St.nil (St.then_normal (St.seq (St.seq (St.rg ?_))))
   refine St.ev _ (Ev.fldb0 (.mk rfl) fo25_0) rfl ?_
   refine St.ev _ (Ev.ldb (.mk rfl) Tryd.underlying22 trivial (by rfl)) rfl ?_
   refine St.ev _ (Ev.lensl (.mk rfl) Tryd.underlying22) rfl ?_
   refine St.mv ?_
   refine St.nil (St.then_normal (St.block ?_))
   refine St.loopS (ι := Nat) (fun k T => (45, iv k) :: T) (fun k => k ≤ ts.length ∧ ∀ b, b < k → (List.range b).any (fun a => wrongT (ts.map tyE) a b) = false) (fun k => ts.length - k) 0 (Keep.cons 1 rfl (Keep.cons 2 rfl (Keep.cons 4 rfl (Keep.cons 44 rfl Keep.nil)))) ⟨Nat.zero_le _, fun b hb => absurd hb (by omega)⟩ (by repeat (first | exact Sub.nil | refine Sub.cons (by first | rfl | exact congrArg (fun z => some (iv z)) (by first | omega | (dsimp only; omega)) | exact congrArg (fun z => some (Value.bool z)) (by first | assumption | exact Eq.symm (by assumption))) ?_)) ?_
   intro k hphi
   obtain ⟨hk, hun⟩ := hphi
   refine St.seq (St.rg ?_)
   refine St.ev _ (Ev.lss (.mk rfl) (.mk rfl)) rfl ?_
   refine St.nil (St.then_normal (St.seq ?_))
   refine St.cond _ rfl (fun h46 => ?_) (fun h46 => ?_)
   ·skip
    try simp only [jbAll] at h46
    refine St.skip (St.then_normal (St.seq (St.block (St.seq (St.rg ?_)))))
    refine St.mv ?_
    refine St.asg ?_
    refine St.nil (St.then_normal (St.seq (St.rg ?_)))
    refine St.mv ?_
    refine St.mv ?_
    refine St.nil (St.then_normal (St.block ?_))
    refine St.loopS (ι := Nat) (fun q T => (49, iv q) :: T) (fun q => q ≤ k ∧ ∀ a, a < q → wrongT (ts.map tyE) a k = false) (fun q => k - q) 0 (Keep.cons 1 rfl (Keep.cons 2 rfl (Keep.cons 4 rfl (Keep.cons 5 rfl (Keep.cons 44 rfl (Keep.cons 45 rfl (Keep.cons 48 rfl Keep.nil))))))) ⟨Nat.zero_le _, fun a ha => absurd ha (by omega)⟩ (by repeat (first | exact Sub.nil | refine Sub.cons (by first | rfl | exact congrArg (fun z => some (iv z)) (by first | omega | (dsimp only; omega)) | exact congrArg (fun z => some (Value.bool z)) (by first | assumption | exact Eq.symm (by assumption))) ?_)) ?_
    intro q hphi
    obtain ⟨hq, hin⟩ := hphi
    refine St.seq (St.rg ?_)
    refine St.ev _ (Ev.lss (.mk rfl) (.mk rfl)) rfl ?_
    refine St.nil (St.then_normal (St.seq ?_))
    refine St.cond _ rfl (fun h50 => ?_) (fun h50 => ?_)
    ·skip
     try simp only [jbAll] at h50
     refine St.skip (St.then_normal (St.seq (St.block (St.seq (St.rg ?_)))))
     refine St.mv ?_
     refine St.asg ?_
     refine St.nil (St.then_normal (St.seq (St.rg ?_)))
     refine St.ev _ (Ev.ldbA (.mk rfl) Tryd.underlying102 trivial (by exact sz102)) rfl ?_
     refine St.mv ?_
     refine St.mv ?_
     refine St.calld (Meet_spec w1 w2 (ts.map tyE) hT q k (by omega) (by omega)) cb53 (.cons (.mk rfl) (.cons (.mk rfl) (.cons (.mk rfl) .nil))) rfl ?_
     rintro v56 _ ⟨mt, ok, rfl, rfl⟩
     refine St.app0 ?_
     refine St.mv ?_
     refine St.ev _ (Ev.extract (.mk rfl) rfl) rfl ?_
     refine St.ev _ (Ev.extract (.mk rfl) rfl) rfl ?_
     refine St.ev _ (Ev.extract (.mk rfl) rfl) rfl ?_
     refine St.asg ?_
     refine St.asg ?_
     refine St.asg ?_
     refine St.nil (St.then_normal (St.seq (St.rg ?_)))
     refine St.mv ?_
     refine St.nil (St.then_normal ?_)
     refine St.cond _ rfl (fun h60 => ?_) (fun h60 => ?_)
     ·skip
      skip
      have hf := hierF_un (Fs := fs.map ftE) h40 hb (unmet_at (by omega) (by omega) h60 hun)
      refine St.seq (St.rg ?_)
      refine St.mv ?_
      refine St.ev _ (Ev.call (hierarchyFault_spec 16 k) cb51 (.cons (.mk rfl) (.cons (.mk rfl) .nil))) rfl ?_
      refine St.storeA (Opd.mk rfl) (Opd.mk rfl) sz42 (by first | simp only [List.length_cons, List.length_nil] | rfl) rfl ?_
      refine St.nil (St.then_normal (St.rett (St.in_ret (St.then_ret (St.then_ret (St.in_ret (St.in_ret (St.then_ret (St.then_ret (St.in_ret (St.then_ret ?_)))))))))))
      refine St.rets [_] [] Tryd.results37 ⟨⟨_, _, _, _, rfl, InB.mem, .inl ⟨⟨_, Tryd.underlying42⟩, sz42, rfl⟩⟩, trivial⟩ ?_ (fun _ hw => hw.sub)
      exact congrArg fv hf.symm
     ·skip
      skip
      refine St.skip (St.in_normal (St.then_normal (St.rg ?_)))
      refine St.ev _ (Ev.add (.mk rfl) (.mk rfl) (by omega)) rfl ?_
      refine St.mv ?_
      refine St.nil (St.then_normal ?_)
      refine St.againS (q + 1) ⟨by omega, fun a ha => by rcases Nat.lt_or_ge a q with h | h; exact hin a h; rw [show a = q by omega]; exact h60⟩ (by first | omega | (dsimp only; omega)) (by repeat (first | exact Sub.nil | refine Sub.cons (by first | rfl | exact congrArg (fun z => some (iv z)) (by first | omega | (dsimp only; omega)) | exact congrArg (fun z => some (Value.bool z)) (by first | assumption | exact Eq.symm (by assumption))) ?_)) (fun _ hw => hw.sub)
    ·skip
     try simp only [jbAll] at h50
     rw [show q = k by omega] at hin
     refine St.exit (St.then_exit (St.then_exit (St.in_hit (St.in_normal (St.then_normal (St.rg ?_))))))
     refine St.ev _ (Ev.add (.mk rfl) (.mk rfl) (by omega)) rfl ?_
     refine St.mv ?_
     refine St.nil (St.then_normal ?_)
     refine St.againS (k + 1) ⟨by omega, fun b hb => by rcases Nat.lt_or_ge b k with h | h; exact hun b h; rw [show b = k by omega]; exact any_range_no hin⟩ (by first | omega | (dsimp only; omega)) (by repeat (first | exact Sub.nil | refine Sub.cons (by first | rfl | exact congrArg (fun z => some (iv z)) (by first | omega | (dsimp only; omega)) | exact congrArg (fun z => some (Value.bool z)) (by first | assumption | exact Eq.symm (by assumption))) ?_)) (fun _ hw => hw.sub)
   ·skip
    try simp only [jbAll] at h46
    have hkt : k = ts.length := by omega
    have hfn := hierF_ft h40 hb (unmet_no (by rw [hTl, ← hkt]; exact hun))
    rw [hTl] at hfn
    refine St.exit (St.then_exit (St.then_exit (St.in_hit (St.then_normal (St.seq (St.rg ?_))))))
    refine St.makeMap mkStr rfl (fun b65 => ?_)
    refine St.asg ?_
    refine St.nil (St.then_normal (St.seq (St.seq (St.rg ?_))))
    refine St.ev _ (Ev.fldb0 (.mk rfl) fo25_1) rfl ?_
    refine St.ev _ (Ev.ldb (.mk rfl) Tryd.underlying23 trivial (by rfl)) rfl ?_
    refine St.ev _ (Ev.lensl (.mk rfl) Tryd.underlying23) rfl ?_
    refine St.mv ?_
    refine St.nil (St.then_normal (St.block ?_))
    refine St.loopH2 (ι := Nat) (κ := List (Str × Value)) (fun k m T => (69, iv k) :: T) (fun k m => [blk b65 (mobj mkStr m), blk b2 (.cells [iv 0, iv 0].toArray 42 (0, 0)), blk b1 (.cells [tv.1, xv.1].toArray 25 (0, 0)), dat (sl tyR tv.1 ts), dat (dall tyD ts), dat (sl featR xv.1 fs)]) (fun k m => k ≤ fs.length ∧ hierF (ts.map tyE) (fs.map ftE) = ftFrom ts.length ((fs.take k).map FeatD.name) k ((fs.map ftE).drop k) ∧ KnM m ((fs.take k).map FeatD.name)) (fun k m => fs.length - k) 0 [] (Keep.cons 1 rfl (Keep.cons 2 rfl (Keep.cons 10 rfl (Keep.cons 67 rfl (Keep.cons 68 rfl Keep.nil))))) ⟨Nat.zero_le _, hfn, KnM.nil⟩ (by repeat (first | exact Sub.nil | refine Sub.cons (by first | rfl | exact congrArg (fun z => some (iv z)) (by first | omega | (dsimp only; omega)) | exact congrArg (fun z => some (Value.bool z)) (by first | assumption | exact Eq.symm (by assumption))) ?_)) (fun _ hw => hw.sub) ?_
    rintro k m ⟨hk, hv, hkn⟩
    refine St.seq (St.rg ?_)
    refine St.ev _ (Ev.lss (.mk rfl) (.mk rfl)) rfl ?_
    refine St.nil (St.then_normal (St.seq ?_))
    refine St.cond _ rfl (fun h70 => ?_) (fun h70 => ?_)
    ·skip
     try simp only [jbAll] at h70
     obtain ⟨t, ht⟩ := some_of_lt (show k < fs.length by omega)
     have htm := List.mem_of_getElem? ht
     have hst := ftFrom_drop (n := ts.length) (l := fs.map ftE) (k := k) (t := ftE t) (by rw [List.getElem?_map, ht]; rfl) ((fs.take k).map FeatD.name)
     rw [← hv] at hst
     have hnl : t.name.length ≤ 9223372036854775807 := by have := (hfw t htm).1; simp only [slen] at this; omega
     refine St.skip (St.then_normal (St.seq (St.block (St.seq (St.rg ?_)))))
     refine St.mv ?_
     refine St.ev _ (Ev.idxaddr (k := k) (.mk rfl) (.mk rfl) Tryd.underlying23 sz87 (by omega) (by omega)) rfl ?_
     refine St.ev _ (Ev.ldA (.mk rfl) ht Tryd.underlying87 trivial sz87 Cel.eq) rfl ?_
     refine St.alloc zc87 rfl (fun b12 => ?_)
     refine St.asg ?_
     refine St.storeA (Opd.mk rfl) (Opd.mk rfl) sz87 (by first | simp only [List.length_cons, List.length_nil] | rfl) (by simp only [List.all_cons, List.all_nil, Bool.and_true, Bool.and_eq_true]; exact ⟨rfl, rfl, rfl⟩) ?_
     refine St.nil (St.then_normal (St.seq (St.seq (St.rg ?_))))
     refine St.ev _ (Ev.fldb0 (.mk rfl) fo87_0) rfl ?_
     refine St.ev _ (Ev.ldb (.mk rfl) Tryd.underlying9 trivial (by rfl)) rfl ?_
     refine St.ev _ (Ev.call (Name_spec t.name hnl) cb40 (.cons (.mk rfl) .nil)) rfl ?_
     refine St.ev _ (Ev.not (.mk rfl)) rfl ?_
     refine St.nil (St.then_normal ?_)
     refine St.cond _ rfl (fun h77 => ?_) (fun h77 => ?_)
     ·skip
      try simp only [jbAll] at h77
      rw [if_pos (show isName (ftE t).1 = false from (by simpa using h77 : isName t.name = false))] at hst
      refine St.seq (St.rg ?_)
      refine St.mv ?_
      refine St.ev _ (Ev.call (hierarchyFault_spec 10 k) cb51 (.cons (.mk rfl) (.cons (.mk rfl) .nil))) rfl ?_
      refine St.storeA (Opd.mk rfl) (Opd.mk rfl) sz42 (by first | simp only [List.length_cons, List.length_nil] | rfl) rfl ?_
      refine St.nil (St.then_normal (St.rett (St.then_ret (St.in_ret (St.then_ret (St.then_ret (St.in_ret (St.then_ret ?_))))))))
      refine St.rets [_] [] Tryd.results37 ⟨⟨_, _, _, _, rfl, InB.mem, .inl ⟨⟨_, Tryd.underlying42⟩, sz42, rfl⟩⟩, trivial⟩ ?_ (fun _ hw => hw.sub)
      exact congrArg fv hst.symm
     ·skip
      try simp only [jbAll] at h77
      rw [if_neg (show ¬ isName (ftE t).1 = false from (by simpa using h77 : ¬ isName t.name = false))] at hst
      refine St.skip (St.then_normal (St.seq (St.seq (St.rg ?_))))
      refine St.mv ?_
      refine St.ev _ (Ev.fldb0 (.mk rfl) fo87_0) rfl ?_
      refine St.ev _ (Ev.ldb (.mk rfl) Tryd.underlying9 trivial (by rfl)) rfl ?_
      refine St.ev _ (Ev.lookup2 mkStr (k := t.name) (.mk rfl) (.mk rfl) Tryd.underlying104 (by exact Tryd.underlying9) zv3) rfl ?_
      refine St.mv ?_
      refine St.ev _ (Ev.extract (.mk rfl) rfl) rfl ?_
      refine St.ev _ (Ev.extract (.mk rfl) rfl) rfl ?_
      refine St.slot 86 (.bool (decide (t.name ∈ (fs.take k).map FeatD.name))) rfl (congrArg Value.bool (hkn t.name)) ?_
      refine St.asg ?_
      refine St.asg ?_
      refine St.nil (St.then_normal (St.seq (St.rg ?_)))
      refine St.mv ?_
      refine St.nil (St.then_normal ?_)
      refine St.cond _ rfl (fun h87 => ?_) (fun h87 => ?_)
      ·skip
       try simp only [jbAll] at h87
       rw [if_pos (show (ftE t).1 ∈ (fs.take k).map FeatD.name from h87)] at hst
       refine St.seq (St.rg ?_)
       refine St.mv ?_
       refine St.ev _ (Ev.call (hierarchyFault_spec 7 k) cb51 (.cons (.mk rfl) (.cons (.mk rfl) .nil))) rfl ?_
       refine St.storeA (Opd.mk rfl) (Opd.mk rfl) sz42 (by first | simp only [List.length_cons, List.length_nil] | rfl) rfl ?_
       refine St.nil (St.then_normal (St.rett (St.then_ret (St.in_ret (St.then_ret (St.then_ret (St.in_ret (St.then_ret ?_))))))))
       refine St.rets [_] [] Tryd.results37 ⟨⟨_, _, _, _, rfl, InB.mem, .inl ⟨⟨_, Tryd.underlying42⟩, sz42, rfl⟩⟩, trivial⟩ ?_ (fun _ hw => hw.sub)
       exact congrArg fv hst.symm
      ·skip
       try simp only [jbAll] at h87
       rw [if_neg (show ¬ (ftE t).1 ∈ (fs.take k).map FeatD.name from h87)] at hst
       refine St.skip (St.then_normal (St.seq (St.rg ?_)))
       refine St.mv ?_
       refine St.ev _ (Ev.fldb0 (.mk rfl) fo87_0) rfl ?_
       refine St.ev _ (Ev.ldb (.mk rfl) Tryd.underlying9 trivial (by rfl)) rfl ?_
       refine St.mv ?_
       refine St.mapUpdate mkStr (k := t.name) (.mk rfl) (.mk rfl) (.mk rfl) Tryd.underlying104 (by exact Tryd.underlying9) ?_
       refine St.nil (St.then_normal (St.seq (St.rg ?_)))
       refine St.ev _ (Ev.fldb0 (.mk rfl) fo87_1) rfl ?_
       refine St.ev _ (Ev.ldb (.mk rfl) Tryd.underlying3 trivial (by rfl)) rfl ?_
       refine St.ev _ (Ev.lss (.mk rfl) (.mk rfl)) rfl ?_
       refine St.mv ?_
       refine St.gf _ rfl rfl (fun hg => Ev.fldb0 (.mk rfl) fo87_1) rfl ?_
       refine St.gf _ rfl rfl (fun hg => Ev.ldb (Opd.gv rfl hg) Tryd.underlying3 trivial (by rfl)) rfl ?_
       refine St.gf _ rfl rfl (fun hg => Ev.fldb0 (.mk rfl) fo25_0) rfl ?_
       refine St.gf _ rfl rfl (fun hg => Ev.ldb (Opd.gv rfl hg) Tryd.underlying22 trivial (by rfl)) rfl ?_
       refine St.gf _ rfl rfl (fun hg => Ev.lensl (Opd.gv rfl hg) Tryd.underlying22) rfl ?_
       refine St.gf _ rfl rfl (fun hg => Ev.geq (Opd.gv rfl hg) (Opd.gv rfl hg)) rfl ?_
       refine St.ev _ (Ev.or (.mk rfl) (fun hp => Opd.gv rfl hp)) rfl ?_
       refine St.mv ?_
       refine St.gf _ rfl rfl (fun hg => Ev.fldb0 (.mk rfl) fo87_2) rfl ?_
       refine St.gf _ rfl rfl (fun hg => Ev.ldb (Opd.gv rfl hg) Tryd.underlying3 trivial (by rfl)) rfl ?_
       refine St.gf _ rfl rfl (fun hg => Ev.lss (Opd.gv rfl hg) (.mk rfl)) rfl ?_
       refine St.ev _ (Ev.or (.mk rfl) (fun hp => Opd.gv rfl hp)) rfl ?_
       refine St.mv ?_
       refine St.gf _ rfl rfl (fun hg => Ev.fldb0 (.mk rfl) fo87_2) rfl ?_
       refine St.gf _ rfl rfl (fun hg => Ev.ldb (Opd.gv rfl hg) Tryd.underlying3 trivial (by rfl)) rfl ?_
       refine St.gf _ rfl rfl (fun hg => Ev.fldb0 (.mk rfl) fo25_0) rfl ?_
       refine St.gf _ rfl rfl (fun hg => Ev.ldb (Opd.gv rfl hg) Tryd.underlying22 trivial (by rfl)) rfl ?_
       refine St.gf _ rfl rfl (fun hg => Ev.lensl (Opd.gv rfl hg) Tryd.underlying22) rfl ?_
       refine St.gf _ rfl rfl (fun hg => Ev.geq (Opd.gv rfl hg) (Opd.gv rfl hg)) rfl ?_
       refine St.ev _ (Ev.or (.mk rfl) (fun hp => Opd.gv rfl hp)) rfl ?_
       refine St.nil (St.then_normal ?_)
       refine St.cond _ rfl (fun h117 => ?_) (fun h117 => ?_)
       ·skip
        try simp only [jbAll] at h117
        rw [if_pos (show (ftE t).2.1 < 0 ∨ (ts.length : Int) ≤ (ftE t).2.1 ∨ (ftE t).2.2 < 0 ∨ (ts.length : Int) ≤ (ftE t).2.2 from (by omega : t.of_ < 0 ∨ (ts.length : Int) ≤ t.of_ ∨ t.value < 0 ∨ (ts.length : Int) ≤ t.value))] at hst
        refine St.seq (St.rg ?_)
        refine St.mv ?_
        refine St.ev _ (Ev.call (hierarchyFault_spec 3 k) cb51 (.cons (.mk rfl) (.cons (.mk rfl) .nil))) rfl ?_
        refine St.storeA (Opd.mk rfl) (Opd.mk rfl) sz42 (by first | simp only [List.length_cons, List.length_nil] | rfl) rfl ?_
        refine St.nil (St.then_normal (St.rett (St.in_ret (St.then_ret (St.then_ret (St.in_ret (St.then_ret ?_)))))))
        refine St.rets [_] [] Tryd.results37 ⟨⟨_, _, _, _, rfl, InB.mem, .inl ⟨⟨_, Tryd.underlying42⟩, sz42, rfl⟩⟩, trivial⟩ ?_ (fun _ hw => hw.sub)
        exact congrArg fv hst.symm
       ·skip
        try simp only [jbAll] at h117
        rw [if_neg (show ¬ ((ftE t).2.1 < 0 ∨ (ts.length : Int) ≤ (ftE t).2.1 ∨ (ftE t).2.2 < 0 ∨ (ts.length : Int) ≤ (ftE t).2.2) from (by omega : ¬ (t.of_ < 0 ∨ (ts.length : Int) ≤ t.of_ ∨ t.value < 0 ∨ (ts.length : Int) ≤ t.value)))] at hst
        refine St.skip (St.in_normal (St.then_normal (St.rg ?_)))
        refine St.ev _ (Ev.add (.mk rfl) (.mk rfl) (by omega)) rfl ?_
        refine St.mv ?_
        refine St.nil (St.then_normal ?_)
        refine St.againH2 (k + 1) (mset m t.name (iv k)) ⟨by omega, by rw [hst, map_take_snoc FeatD.name ht]; rfl, by rw [map_take_snoc FeatD.name ht]; exact hkn.snoc _ _⟩ (by first | omega | (dsimp only; omega)) (by repeat (first | exact Sub.nil | refine Sub.cons (by first | rfl | exact congrArg (fun z => some (iv z)) (by first | omega | (dsimp only; omega)) | exact congrArg (fun z => some (Value.bool z)) (by first | assumption | exact Eq.symm (by assumption))) ?_)) (fun _ hw => hw.sub)
    ·skip
     try simp only [jbAll] at h70
     rw [ftFrom_end (by rw [List.length_map]; omega)] at hv
     refine St.exit (St.then_exit (St.then_exit (St.in_hit (St.then_normal (St.seq (St.rg ?_))))))
     refine St.ev _ (Ev.build (ps := []) (Opds.nil) (fun w => bld42_  w)) rfl ?_
     refine St.storeA (Opd.mk rfl) (Opd.mk rfl) sz42 (by first | simp only [List.length_cons, List.length_nil] | rfl) rfl ?_
     refine St.nil (St.then_normal (St.rett ?_))
     refine St.rets [_] [] Tryd.results37 ⟨⟨_, _, _, _, rfl, InB.mem, .inl ⟨⟨_, Tryd.underlying42⟩, sz42, rfl⟩⟩, trivial⟩ ?_ (fun _ hw => hw.sub)
     exact congrArg fv hv.symm
end Go.Proofs.YtolmidffiegkaaaDoor

/-
  (YtolmidffiegkaaaDoorGrfP)
  What is reached in a graph: by passes, by a stack.
  Conditions: none.
-/
namespace Go.Proofs.YtolmidffiegkaaaDoor
open Go Go.J
inductive Reach (g : Gr0) : Nat → Prop where
 | root : Reach g 0
 | step {i : Nat} {x : Int × Int} : Reach g i → x ∈ (g.getD i nd0).2 → Reach g x.2.toNat
def leM (M N : List Bool) : Prop := M.length = N.length ∧ ∀ x : Nat, M[x]? = some true → N[x]? = some true
theorem leM.refl (M : List Bool) : leM M M := ⟨rfl, fun _ h => h⟩
theorem leM.trans {A B C : List Bool} (h : leM A B) (k : leM B C) : leM A C := ⟨h.1.trans k.1, fun x hx => k.2 x (h.2 x hx)⟩
theorem leM.anti {A B : List Bool} (h : leM A B) (k : leM B A) : A = B := by
 refine List.ext_getElem? fun i => ?_
 rcases Nat.lt_or_ge i A.length with hi | hi
 ·have hi2 : i < B.length := by rw [← h.1]; exact hi
  rw [List.getElem?_eq_getElem hi, List.getElem?_eq_getElem hi2]
  have h1 := h.2 i
  have h2 := k.2 i
  rw [List.getElem?_eq_getElem hi, List.getElem?_eq_getElem hi2] at h1 h2
  cases e1 : A[i] <;> cases e2 : B[i] <;> simp_all
 ·rw [List.getElem?_eq_none hi, List.getElem?_eq_none (by rw [← h.1]; exact hi)]
theorem leM.set (M : List Bool) (i : Nat) : leM M (M.set i true) := ⟨by rw [List.length_set], fun x hx => by
 by_cases e : i = x
 ·subst e; rw [List.getElem?_set_self (lt_of_some hx)]
 ·rw [List.getElem?_set_ne e]; exact hx⟩
theorem leM.mark (i : Nat) (M : List Bool) (x : Int × Int) : leM M (mark1 i M x) := by
 unfold mark1; split
 ·exact leM.set _ _
 ·exact leM.refl _
theorem leM.fold {γ : Type} {f : List Bool → γ → List Bool} (h : ∀ M c, leM M (f M c)) : ∀ (l : List γ) (M : List Bool), leM M (l.foldl f M)
 | [], M => leM.refl M
 | c :: l, M => (h M c).trans (leM.fold h l (f M c))
theorem fold_fix {γ : Type} {f : List Bool → γ → List Bool} (h : ∀ M c, leM M (f M c)) : ∀ (l : List γ) (M : List Bool), l.foldl f M = M → ∀ c ∈ l, f M c = M
 | [], _, _, c, hc => by cases hc
 | c :: l, M, he, d, hd => by
  rw [List.foldl_cons] at he
  have h1 : f M c = M := leM.anti (by have := leM.fold h l (f M c); rw [he] at this; exact this) (h M c)
  rcases List.mem_cons.1 hd with rfl | hd
  ·exact h1
  ·rw [h1] at he; exact fold_fix h l M he d hd
theorem leM.node (g : Gr0) (M : List Bool) (i : Nat) : leM M (passN g M i) := leM.fold (fun M x => leM.mark i M x) _ M
theorem leM.pass (g : Gr0) (M : List Bool) : leM M (pass g M) := leM.fold (fun M i => leM.node g M i) _ M
def cntM (M : List Bool) : Nat := M.countP fun b => b
theorem cnt_le : ∀ {A B : List Bool}, leM A B → cntM A ≤ cntM B ∧ (cntM B ≤ cntM A → A = B)
 | [], [], _ => ⟨Nat.le_refl _, fun _ => rfl⟩
 | [], _ :: _, h => absurd h.1 (by simp)
 | _ :: _, [], h => absurd h.1 (by simp)
 | a :: A, b :: B, h => by
  have ht : leM A B := ⟨by simpa using h.1, fun x hx => by have := h.2 (x + 1) (by simpa using hx); simpa using this⟩
  have h0 := h.2 0
  obtain ⟨i1, i2⟩ := cnt_le ht
  unfold cntM at *
  cases a <;> cases b <;> simp_all <;> omega
theorem cnt_max (M : List Bool) : cntM M ≤ M.length := List.countP_le_length
theorem passes_len (g : Gr0) : ∀ k, (passes g k).length = g.length
 | 0 => by simp [passes]
 | k + 1 => by rw [passes, ← (leM.pass g _).1, passes_len g k]
theorem passes_cnt {g : Gr0} (hg : 0 < g.length) : ∀ k, pass g (passes g k) = passes g k ∨ k + 1 ≤ cntM (passes g k)
 | 0 => by
  refine .inr ?_
  obtain ⟨n, hn⟩ : ∃ n, g.length = n + 1 := ⟨g.length - 1, by omega⟩
  simp [passes, cntM, hn, List.replicate_succ]
 | k + 1 => by
  rcases passes_cnt hg k with h | h
  ·left; rw [passes, h, h]
  ·by_cases e : pass g (passes g (k + 1)) = passes g (k + 1)
   ·exact .inl e
   ·right
    have h1 := cnt_le (leM.pass g (passes g k))
    rw [passes]
    rcases Nat.lt_or_ge (cntM (passes g k)) (cntM (pass g (passes g k))) with h2 | h2
    ·omega
    ·have := h1.2 h2
     exact absurd (by rw [passes, ← this, ← this]) e
theorem passes_fix {g : Gr0} (hg : 0 < g.length) : pass g (passes g g.length) = passes g g.length := by
 rcases passes_cnt hg g.length with h | h
 ·exact h
 ·have := cnt_max (passes g g.length)
  rw [passes_len] at this; omega
theorem fix_closed {g : Gr0} {M : List Bool} (hM : M.length = g.length) (h : pass g M = M) {i : Nat} (hi : M[i]? = some true) {x : Int × Int} (hx : x ∈ (g.getD i nd0).2) (hlt : x.2.toNat < g.length) : M[x.2.toNat]? = some true := by
 have h1 := fold_fix (fun M i => leM.node g M i) _ M h i (List.mem_range.2 (by rw [← hM]; exact lt_of_some hi))
 have h2 := fold_fix (fun M x => leM.mark i M x) _ M h1 x hx
 unfold mark1 at h2
 rw [if_pos (by rw [List.getD_eq_getElem?_getD, hi]; rfl)] at h2
 rw [← h2, List.getElem?_set_self (by rw [hM]; exact hlt)]
def Snd (g : Gr0) (M : List Bool) : Prop := ∀ x : Nat, M[x]? = some true → Reach g x
theorem Snd.set {g : Gr0} {M : List Bool} (h : Snd g M) {i : Nat} (hi : Reach g i) : Snd g (M.set i true) := fun x hx => by
 by_cases e : i = x
 ·subst e; exact hi
 ·rw [List.getElem?_set_ne e] at hx; exact h x hx
theorem Snd.fold {γ : Type} {g : Gr0} {f : List Bool → γ → List Bool} : ∀ (l : List γ) (M : List Bool), (∀ M, ∀ c ∈ l, Snd g M → Snd g (f M c)) → Snd g M → Snd g (l.foldl f M)
 | [], _, _, h => h
 | c :: l, M, hf, h => Snd.fold l _ (fun M d hd => hf M d (List.mem_cons_of_mem _ hd)) (hf M c (List.mem_cons_self ..) h)
theorem Snd.pass {g : Gr0} {M : List Bool} (h : Snd g M) : Snd g (pass g M) :=
 Snd.fold _ _ (fun M i _ hM => Snd.fold _ _ (fun M x hx hM => by
  unfold mark1
  split
  ·rename_i hi
   refine hM.set (Reach.step (hM i ?_) hx)
   rw [List.getD_eq_getElem?_getD] at hi
   cases e : M[i]? with
   | none => rw [e] at hi; cases hi
   | some b => rw [e] at hi; simp at hi; rw [hi]
  ·exact hM) hM) h
theorem Snd.passes (g : Gr0) : ∀ k, Snd g (passes g k)
 | 0 => fun x hx => by
  by_cases e : 0 = x
  ·subst e; exact Reach.root
  ·rw [Proofs.YtolmidffiegkaaaDoor.passes, List.getElem?_set_ne e, List.getElem?_replicate] at hx
   split at hx <;> simp at hx
 | k + 1 => (Snd.passes g k).pass
def LkOK (g : Gr0) : Prop := 0 < g.length ∧ ∀ n ∈ g, ∀ x ∈ n.2, 0 ≤ x.1 ∧ 0 ≤ x.2 ∧ x.2.toNat < g.length
theorem LkOK.at_ {g : Gr0} (h : LkOK g) {i : Nat} {x : Int × Int} (hx : x ∈ (g.getD i nd0).2) : 0 ≤ x.1 ∧ 0 ≤ x.2 ∧ x.2.toNat < g.length := by
 rcases Nat.lt_or_ge i g.length with hi | hi
 ·refine h.2 _ (List.getElem_mem hi) x ?_
  rw [List.getD_eq_getElem?_getD, List.getElem?_eq_getElem hi] at hx; exact hx
 ·rw [List.getD_eq_getElem?_getD, List.getElem?_eq_none hi] at hx; cases hx
theorem passes_root {g : Gr0} (h : 0 < g.length) : ∀ k, (passes g k)[0]? = some true
 | 0 => by rw [passes, List.getElem?_set_self (by simp; exact h)]
 | k + 1 => (leM.pass g _).2 0 (passes_root h k)
theorem passes_reach {g : Gr0} (h : LkOK g) {x : Nat} : Reach g x ↔ (passes g g.length)[x]? = some true := by
 refine ⟨fun hr => ?_, Snd.passes g _ x⟩
 induction hr with
 | root => exact passes_root h.1 _
 | step _ hx ih => exact fix_closed (passes_len g _) (passes_fix h.1) ih hx (h.at_ hx).2.2
structure Dfs (g : Gr0) (M : List Bool) (st : List Nat) : Prop where
 len : M.length = g.length
 snd : Snd g M
 root : M[0]? = some true
 stk : ∀ i ∈ st, M[i]? = some true
 cls : ∀ i, M[i]? = some true → i ∉ st → ∀ x ∈ (g.getD i nd0).2, M[x.2.toNat]? = some true
theorem Dfs.start {g : Gr0} (h : 0 < g.length) : Dfs g ((List.replicate g.length false).set 0 true) [0] := by
 refine ⟨by simp, Snd.passes g 0, passes_root h 0, fun i hi => by rw [List.mem_singleton.1 hi]; exact passes_root h 0, fun i hm hi => ?_⟩
 rw [List.getElem?_set_ne (fun e => hi (List.mem_singleton.2 e.symm)), List.getElem?_replicate] at hm
 split at hm <;> simp at hm
theorem Dfs.fin {g : Gr0} (hg : LkOK g) {M : List Bool} (h : Dfs g M []) : M = passes g g.length := by
 refine leM.anti ⟨by rw [h.len, passes_len], fun x hx => (passes_reach hg).1 (h.snd x hx)⟩ ⟨by rw [h.len, passes_len], fun x hx => ?_⟩
 have := (passes_reach hg).2 hx
 clear hx
 induction this with
 | root => exact h.root
 | step _ hx ih => exact h.cls _ ih (by simp) _ hx
structure DfsIn (g : Gr0) (i k : Nat) (M : List Bool) (st : List Nat) : Prop where
 len : M.length = g.length
 snd : Snd g M
 root : M[0]? = some true
 me : M[i]? = some true
 stk : ∀ j ∈ st, M[j]? = some true
 cls : ∀ j, M[j]? = some true → j ≠ i → j ∉ st → ∀ x ∈ (g.getD j nd0).2, M[x.2.toNat]? = some true
 upto : ∀ x ∈ (g.getD i nd0).2.take k, M[x.2.toNat]? = some true
theorem Dfs.pop {g : Gr0} {M : List Bool} {st : List Nat} {i : Nat} (h : Dfs g M (st ++ [i])) : DfsIn g i 0 M st :=
 ⟨h.len, h.snd, h.root, h.stk i (by simp), fun j hj => h.stk j (by simp [hj]), fun j hm hne hj => h.cls j hm (by simp [hj, hne]), fun x hx => by simp at hx⟩
theorem DfsIn.done {g : Gr0} {M : List Bool} {st : List Nat} {i : Nat} (h : DfsIn g i (g.getD i nd0).2.length M st) : Dfs g M st :=
 ⟨h.len, h.snd, h.root, h.stk, fun j hm hj => by
  by_cases e : j = i
  ·subst e; intro x hx; exact h.upto x (by rw [List.take_length]; exact hx)
  ·exact h.cls j hm e hj⟩
theorem DfsIn.old {g : Gr0} {M : List Bool} {st : List Nat} {i k : Nat} {x : Int × Int} (h : DfsIn g i k M st) (hx : (g.getD i nd0).2[k]? = some x) (hm : M[x.2.toNat]? = some true) : DfsIn g i (k + 1) M st :=
 ⟨h.len, h.snd, h.root, h.me, h.stk, h.cls, fun y hy => by
  rw [take_of_some hx] at hy
  rcases List.mem_append.1 hy with hy | hy
  ·exact h.upto y hy
  ·rw [List.mem_singleton.1 hy]; exact hm⟩
theorem DfsIn.new {g : Gr0} (hg : LkOK g) {M : List Bool} {st : List Nat} {i k : Nat} {x : Int × Int} (h : DfsIn g i k M st) (hx : (g.getD i nd0).2[k]? = some x) : DfsIn g i (k + 1) (M.set x.2.toNat true) (st ++ [x.2.toNat]) := by
 have hxm := List.mem_of_getElem? hx
 have hlt := (hg.at_ hxm).2.2
 have mono := (leM.set M x.2.toNat).2
 have new : (M.set x.2.toNat true)[x.2.toNat]? = some true := List.getElem?_set_self (by rw [h.len]; exact hlt)
 refine ⟨by rw [List.length_set]; exact h.len, h.snd.set (Reach.step (h.snd i h.me) hxm), mono _ h.root, mono _ h.me, fun j hj => ?_, fun j hm hne hj y hy => ?_, fun y hy => ?_⟩
 ·rcases List.mem_append.1 hj with hj | hj
  ·exact mono _ (h.stk j hj)
  ·rw [List.mem_singleton.1 hj]; exact new
 ·have hj2 : j ∉ st ∧ j ≠ x.2.toNat := by simpa using hj
  rw [List.getElem?_set_ne (fun e => hj2.2 e.symm)] at hm
  exact mono _ (h.cls j hm hne hj2.1 y hy)
 ·rw [take_of_some hx] at hy
  rcases List.mem_append.1 hy with hy | hy
  ·exact mono _ (h.upto y hy)
  ·rw [List.mem_singleton.1 hy]; exact new
theorem cnt_new {M : List Bool} {i : Nat} (h : M[i]? = some false) : cntM (M.set i true) = cntM M + 1 := by
 induction M generalizing i with
 | nil => cases h
 | cons b M ih =>
  cases i with
  | zero => simp at h; subst h; simp [cntM]
  | succ i =>
   have := ih (i := i) (by simpa using h)
   unfold cntM at *
   cases b <;> simp_all <;> omega
end Go.Proofs.YtolmidffiegkaaaDoor
