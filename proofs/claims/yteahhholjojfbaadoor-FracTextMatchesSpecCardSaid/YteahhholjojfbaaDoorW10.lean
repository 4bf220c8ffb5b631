/-
  The walk of the law on the texts of fractions.
  Conditions: the fraction is one of integers of their types; the library's variables hold what the program lays.
-/
import Derived.Test.YteahhholjojfbaaDoorW8
import Derived.Test.YteahhholjojfbaaDoorW9
set_option maxRecDepth 20000
set_option linter.unusedSimpArgs false
set_option linter.unusedVariables false
namespace Go.Proofs.YteahhholjojfbaaDoor
open Go Go.J

theorem law1_spec (x : Pr) (s : Str) (hx : prOk x) (hs : s.length ≤ 9223372036854775807) : FnV Tryd.prog 3 #[frv x, sv s] [vars] (.bool true) := by
  refine FnV.body1 (args := [frv x, sv s]) 80 Tryd.func3 rfl Tryd.ntmps3 rfl (fun c => ?_)
  refine St.seq ?_
  refine St.rg ?_
  refine St.boxA (Opd.mk rfl) rfl (fun b2 => ?_)
  refine St.ev _ (Ev.assign (Opd.mk rfl)) rfl ?_
  refine St.nil ?_
  refine St.then_normal ?_
  refine St.seq ?_
  refine St.seq ?_
  refine St.rg ?_
  refine St.ev _ (Ev.call (fracReady_spec) cb4 (Opds.nil)) rfl ?_
  refine St.ev _ (Ev.not (Opd.mk rfl)) rfl ?_
  refine St.nil ?_
  refine St.then_normal ?_
  refine St.condf _ rfl rfl ?_
  refine St.skip ?_
  refine St.then_normal ?_
  refine St.seq ?_
  refine St.rg ?_
  refine St.ev _ (Ev.ldbA (Opd.mk rfl) Tryd.underlying23 trivial (by exact sz23)) rfl ?_
  refine St.ev _ (Ev.call (Print_spec x hx) cb5 (Opds.cons (Opd.mk rfl) Opds.nil)) rfl ?_
  refine St.ev _ (Ev.move (Opd.mk rfl)) rfl ?_
  refine St.ev _ (Ev.extract (Opd.mk rfl) rfl) rfl ?_
  refine St.ev _ (Ev.extract (Opd.mk rfl) rfl) rfl ?_
  refine St.alloc zc26 rfl (fun b6 => ?_)
  refine St.ev _ (Ev.assign (Opd.mk rfl)) rfl ?_
  refine St.storeA (Opd.mk rfl) (Opd.mk rfl) sz26 (by first | simp only [List.length_cons, List.length_nil] | rfl) rfl ?_
  refine St.nil ?_
  refine St.then_normal ?_
  refine St.seq ?_
  refine St.rg ?_
  refine St.ev _ (Ev.ldbA (Opd.mk rfl) Tryd.underlying23 trivial (by exact sz23)) rfl ?_
  refine St.ev _ (Ev.call (FracFault_spec x.1 x.2 (-1) hx.1 hx.2) cb6 (Opds.cons (Opd.mk rfl) (Opds.cons (Opd.mk rfl) Opds.nil))) rfl ?_
  refine St.alloc zc26 rfl (fun b7 => ?_)
  refine St.storeA (Opd.mk rfl) (Opd.mk rfl) sz26 (by first | simp only [List.length_cons, List.length_nil] | rfl) rfl ?_
  refine St.nil ?_
  refine St.then_normal ?_
  refine St.seq ?_
  refine St.seq ?_
  refine St.rg ?_
  refine St.ev _ (Ev.ldbA (Opd.mk rfl) Tryd.underlying26 trivial (by exact sz26)) rfl ?_
  refine St.ev _ (Ev.ldbA (Opd.mk rfl) Tryd.underlying26 trivial (by exact sz26)) rfl ?_
  refine St.ev _ (Ev.structneq (Opd.mk rfl) (Opd.mk rfl) Tryd.eqGuardType26 (fun w => eqf26 _ _ _ _ w)) rfl ?_
  refine St.ev _ (Ev.move (Opd.mk rfl)) rfl ?_
  refine St.gf _ rfl rfl (fun hg => Ev.fldb0 (Opd.mk rfl) fo26_0) rfl ?_
  refine St.gf _ rfl rfl (fun hg => Ev.ldb (Opd.gv rfl hg) Tryd.underlying3 trivial (by rfl)) rfl ?_
  refine St.gf _ rfl rfl (fun hg => Ev.neq (Opd.gv rfl hg) (Opd.mk rfl)) rfl ?_
  refine St.gf _ rfl rfl (fun hg => Ev.move (Opd.gv rfl hg)) rfl ?_
  refine St.gct _ rfl rfl (fun hg => Ev.move (Opd.mk rfl)) rfl ?_
  refine St.gct _ rfl rfl (fun hg => Ev.strne (Opd.gv rfl hg) (Opd.mk rfl)) rfl ?_
  refine St.gf _ rfl rfl (fun hg => Ev.and (Opd.gv rfl hg) (fun hp => Opd.gv rfl (and_i hg hp))) rfl ?_
  refine St.ev _ (Ev.or (Opd.mk rfl) (fun hp => Opd.gv rfl hp)) rfl ?_
  refine St.ev _ (Ev.move (Opd.mk rfl)) rfl ?_
  refine St.gf _ rfl rfl (fun hg => Ev.fldb0 (Opd.mk rfl) fo26_0) rfl ?_
  refine St.gf _ rfl rfl (fun hg => Ev.ldb (Opd.gv rfl hg) Tryd.underlying3 trivial (by rfl)) rfl ?_
  refine St.gf _ rfl rfl (fun hg => Ev.eql (Opd.gv rfl hg) (Opd.mk rfl)) rfl ?_
  refine St.gf _ rfl rfl (fun hg => Ev.move (Opd.gv rfl hg)) rfl ?_
  refine St.gct _ rfl rfl (fun hg => Ev.move (Opd.mk rfl)) rfl ?_
  refine St.gct _ rfl rfl (fun hg => Ev.ldbA (Opd.mk rfl) Tryd.underlying23 trivial (by exact sz23)) rfl ?_
  refine St.gct _ rfl rfl (fun hg => Ev.call (FracText_spec x hx) cb7 (Opds.cons (Opd.gv rfl hg) Opds.nil)) rfl ?_
  refine St.gct _ rfl rfl (fun hg => Ev.strne (Opd.gv rfl hg) (Opd.gv rfl hg)) rfl ?_
  refine St.gf _ rfl rfl (fun hg => Ev.and (Opd.gv rfl hg) (fun hp => Opd.gv rfl (and_i hg hp))) rfl ?_
  refine St.ev _ (Ev.or (Opd.mk rfl) (fun hp => Opd.gv rfl hp)) rfl ?_
  refine St.nil ?_
  refine St.then_normal ?_
  refine St.condf _ rfl (if hf : (frBad x.1 x.2 (-1)).1 = 0 then (by simp [hf, refText_eq (frBad_iff.1 hf)]) else (by simp [hf])) ?_
  refine St.skip ?_
  refine St.then_normal ?_
  refine St.seq ?_
  refine St.seq ?_
  refine St.rg ?_
  refine St.ev _ (Ev.fldb0 (Opd.mk rfl) fo26_0) rfl ?_
  refine St.ev _ (Ev.ldb (Opd.mk rfl) Tryd.underlying3 trivial (by rfl)) rfl ?_
  refine St.ev _ (Ev.eql (Opd.mk rfl) (Opd.mk rfl)) rfl ?_
  refine St.nil ?_
  refine St.then_normal ?_
  refine St.cond _ rfl (fun h48 => ?_) (fun h48 => ?_)
  · skip
    try simp only [Bool.and_true, Bool.true_and, decide_eq_true_eq, decide_eq_false_iff_not, Bool.and_eq_true, Bool.or_eq_true, Bool.and_eq_false_iff, Bool.or_eq_false_iff, Bool.not_eq_true', Bool.not_eq_false', beq_iff_eq, beq_eq_false_iff_ne, Int.not_lt, Int.not_le] at h48
    have hf : (frBad x.1 x.2 (-1)).1 = 0 := by omega
    have hv := frBad_iff.1 hf
    refine St.slot 5 (sv (frText x)) rfl (by rw [if_pos hf]) ?_
    refine St.seq ?_
    refine St.rg ?_
    refine St.ev _ (Ev.move (Opd.mk rfl)) rfl ?_
    refine St.ev _ (Ev.call (Parse_spec (frText x)) cb8 (Opds.cons (Opd.mk rfl) Opds.nil)) rfl ?_
    refine St.slot 51 (frR (x, (0, 0))) rfl (by rw [progRead_text hv]; rfl) ?_
    refine St.ev _ (Ev.move (Opd.mk rfl)) rfl ?_
    refine St.ev _ (Ev.extract (Opd.mk rfl) rfl) rfl ?_
    refine St.ev _ (Ev.extract (Opd.mk rfl) rfl) rfl ?_
    refine St.alloc zc23 rfl (fun b8 => ?_)
    refine St.alloc zc26 rfl (fun b9 => ?_)
    refine St.storeA (Opd.mk rfl) (Opd.mk rfl) sz23 (by first | simp only [List.length_cons, List.length_nil] | rfl) rfl ?_
    refine St.storeA (Opd.mk rfl) (Opd.mk rfl) sz26 (by first | simp only [List.length_cons, List.length_nil] | rfl) rfl ?_
    refine St.nil ?_
    refine St.then_normal ?_
    refine St.seq ?_
    refine St.rg ?_
    refine St.ev _ (Ev.fldb0 (Opd.mk rfl) fo26_0) rfl ?_
    refine St.ev _ (Ev.ldb (Opd.mk rfl) Tryd.underlying3 trivial (by rfl)) rfl ?_
    refine St.ev _ (Ev.neq (Opd.mk rfl) (Opd.mk rfl)) rfl ?_
    refine St.ev _ (Ev.move (Opd.mk rfl)) rfl ?_
    refine St.gf _ rfl rfl (fun hg => Ev.ldbA (Opd.mk rfl) Tryd.underlying23 trivial (by exact sz23)) rfl ?_
    refine St.gf _ rfl rfl (fun hg => Ev.ldbA (Opd.mk rfl) Tryd.underlying23 trivial (by exact sz23)) rfl ?_
    refine St.gf _ rfl rfl (fun hg => Ev.structneq (Opd.gv rfl hg) (Opd.gv rfl hg) Tryd.eqGuardType23 (fun w => eqf23 _ _ _ _ w)) rfl ?_
    refine St.ev _ (Ev.or (Opd.mk rfl) (fun hp => Opd.gv rfl hp)) rfl ?_
    refine St.nil ?_
    refine St.then_normal ?_
    refine St.condf _ rfl (by simp) ?_
    refine St.skip ?_
    refine St.then_normal ?_
    refine St.seq ?_
    refine St.rg ?_
    refine St.ev _ (Ev.move (Opd.mk rfl)) rfl ?_
    refine St.ev _ (Ev.call (Parse_spec s) cb8 (Opds.cons (Opd.mk rfl) Opds.nil)) rfl ?_
    refine St.ev _ (Ev.move (Opd.mk rfl)) rfl ?_
    refine St.ev _ (Ev.extract (Opd.mk rfl) rfl) rfl ?_
    refine St.ev _ (Ev.extract (Opd.mk rfl) rfl) rfl ?_
    refine St.alloc zc23 rfl (fun b10 => ?_)
    refine St.alloc zc26 rfl (fun b11 => ?_)
    refine St.storeA (Opd.mk rfl) (Opd.mk rfl) sz23 (by first | simp only [List.length_cons, List.length_nil] | rfl) rfl ?_
    refine St.storeA (Opd.mk rfl) (Opd.mk rfl) sz26 (by first | simp only [List.length_cons, List.length_nil] | rfl) rfl ?_
    refine St.nil ?_
    refine St.then_normal ?_
    refine St.seq ?_
    refine St.rg ?_
    refine St.ev _ (Ev.move (Opd.mk rfl)) rfl ?_
    refine St.ev _ (Ev.call (FracRead_spec s hs) cb9 (Opds.cons (Opd.mk rfl) Opds.nil)) rfl ?_
    refine St.slot 69 (frR (prP (progRead s))) rfl (by rw [read_same]) ?_
    refine St.ev _ (Ev.move (Opd.mk rfl)) rfl ?_
    refine St.ev _ (Ev.extract (Opd.mk rfl) rfl) rfl ?_
    refine St.ev _ (Ev.extract (Opd.mk rfl) rfl) rfl ?_
    refine St.alloc zc23 rfl (fun b12 => ?_)
    refine St.alloc zc26 rfl (fun b13 => ?_)
    refine St.storeA (Opd.mk rfl) (Opd.mk rfl) sz23 (by first | simp only [List.length_cons, List.length_nil] | rfl) rfl ?_
    refine St.storeA (Opd.mk rfl) (Opd.mk rfl) sz26 (by first | simp only [List.length_cons, List.length_nil] | rfl) rfl ?_
    refine St.nil ?_
    refine St.then_normal ?_
    refine St.seq ?_
    refine St.rg ?_
    refine St.ev _ (Ev.ldbA (Opd.mk rfl) Tryd.underlying23 trivial (by exact sz23)) rfl ?_
    refine St.ev _ (Ev.ldbA (Opd.mk rfl) Tryd.underlying23 trivial (by exact sz23)) rfl ?_
    refine St.ev _ (Ev.structeql (Opd.mk rfl) (Opd.mk rfl) Tryd.eqGuardType23 (fun w => eqf23 _ _ _ _ w)) rfl ?_
    refine St.ev _ (Ev.move (Opd.mk rfl)) rfl ?_
    refine St.gt _ rfl rfl (fun hg => Ev.ldbA (Opd.mk rfl) Tryd.underlying26 trivial (by exact sz26)) rfl ?_
    refine St.gt _ rfl rfl (fun hg => Ev.ldbA (Opd.mk rfl) Tryd.underlying26 trivial (by exact sz26)) rfl ?_
    refine St.gt _ rfl rfl (fun hg => Ev.structeql (Opd.gv rfl hg) (Opd.gv rfl hg) Tryd.eqGuardType26 (fun w => eqf26 _ _ _ _ w)) rfl ?_
    refine St.ev _ (Ev.and (Opd.mk rfl) (fun hp => Opd.gv rfl hp)) rfl ?_
    refine St.ev _ (Ev.assign (Opd.mk rfl)) rfl ?_
    refine St.nil ?_
    refine St.then_normal ?_
    refine St.rett ?_
    refine St.rets [_] [] Tryd.results3 ⟨rfl, trivial⟩ ?_ (fun _ hw => hw.sub)
    exact be (by simp)
  · skip
    try simp only [Bool.and_true, Bool.true_and, decide_eq_true_eq, decide_eq_false_iff_not, Bool.and_eq_true, Bool.or_eq_true, Bool.and_eq_false_iff, Bool.or_eq_false_iff, Bool.not_eq_true', Bool.not_eq_false', beq_iff_eq, beq_eq_false_iff_ne, Int.not_lt, Int.not_le] at h48
    refine St.skip ?_
    refine St.then_normal ?_
    refine St.seq ?_
    refine St.rg ?_
    refine St.ev _ (Ev.move (Opd.mk rfl)) rfl ?_
    refine St.ev _ (Ev.call (Parse_spec s) cb8 (Opds.cons (Opd.mk rfl) Opds.nil)) rfl ?_
    refine St.ev _ (Ev.move (Opd.mk rfl)) rfl ?_
    refine St.ev _ (Ev.extract (Opd.mk rfl) rfl) rfl ?_
    refine St.ev _ (Ev.extract (Opd.mk rfl) rfl) rfl ?_
    refine St.alloc zc23 rfl (fun b10 => ?_)
    refine St.alloc zc26 rfl (fun b11 => ?_)
    refine St.storeA (Opd.mk rfl) (Opd.mk rfl) sz23 (by first | simp only [List.length_cons, List.length_nil] | rfl) rfl ?_
    refine St.storeA (Opd.mk rfl) (Opd.mk rfl) sz26 (by first | simp only [List.length_cons, List.length_nil] | rfl) rfl ?_
    refine St.nil ?_
    refine St.then_normal ?_
    refine St.seq ?_
    refine St.rg ?_
    refine St.ev _ (Ev.move (Opd.mk rfl)) rfl ?_
    refine St.ev _ (Ev.call (FracRead_spec s hs) cb9 (Opds.cons (Opd.mk rfl) Opds.nil)) rfl ?_
    refine St.slot 69 (frR (prP (progRead s))) rfl (by rw [read_same]) ?_
    refine St.ev _ (Ev.move (Opd.mk rfl)) rfl ?_
    refine St.ev _ (Ev.extract (Opd.mk rfl) rfl) rfl ?_
    refine St.ev _ (Ev.extract (Opd.mk rfl) rfl) rfl ?_
    refine St.alloc zc23 rfl (fun b12 => ?_)
    refine St.alloc zc26 rfl (fun b13 => ?_)
    refine St.storeA (Opd.mk rfl) (Opd.mk rfl) sz23 (by first | simp only [List.length_cons, List.length_nil] | rfl) rfl ?_
    refine St.storeA (Opd.mk rfl) (Opd.mk rfl) sz26 (by first | simp only [List.length_cons, List.length_nil] | rfl) rfl ?_
    refine St.nil ?_
    refine St.then_normal ?_
    refine St.seq ?_
    refine St.rg ?_
    refine St.ev _ (Ev.ldbA (Opd.mk rfl) Tryd.underlying23 trivial (by exact sz23)) rfl ?_
    refine St.ev _ (Ev.ldbA (Opd.mk rfl) Tryd.underlying23 trivial (by exact sz23)) rfl ?_
    refine St.ev _ (Ev.structeql (Opd.mk rfl) (Opd.mk rfl) Tryd.eqGuardType23 (fun w => eqf23 _ _ _ _ w)) rfl ?_
    refine St.ev _ (Ev.move (Opd.mk rfl)) rfl ?_
    refine St.gt _ rfl rfl (fun hg => Ev.ldbA (Opd.mk rfl) Tryd.underlying26 trivial (by exact sz26)) rfl ?_
    refine St.gt _ rfl rfl (fun hg => Ev.ldbA (Opd.mk rfl) Tryd.underlying26 trivial (by exact sz26)) rfl ?_
    refine St.gt _ rfl rfl (fun hg => Ev.structeql (Opd.gv rfl hg) (Opd.gv rfl hg) Tryd.eqGuardType26 (fun w => eqf26 _ _ _ _ w)) rfl ?_
    refine St.ev _ (Ev.and (Opd.mk rfl) (fun hp => Opd.gv rfl hp)) rfl ?_
    refine St.ev _ (Ev.assign (Opd.mk rfl)) rfl ?_
    refine St.nil ?_
    refine St.then_normal ?_
    refine St.rett ?_
    refine St.rets [_] [] Tryd.results3 ⟨rfl, trivial⟩ ?_ (fun _ hw => hw.sub)
    exact be (by simp)

end Go.Proofs.YteahhholjojfbaaDoor
