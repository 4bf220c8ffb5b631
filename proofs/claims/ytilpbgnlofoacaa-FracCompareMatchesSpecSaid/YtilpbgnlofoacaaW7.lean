/-
  The walks of the laws on fractions.
  Conditions: the fractions are integers of their types.
-/
import Derived.Test.YtilpbgnlofoacaaW6
set_option linter.unusedSimpArgs false
set_option linter.unusedVariables false
namespace Go.Proofs.Ytilpbgnlofoacaa
open Go Go.J

theorem prOk_do (k : Nat) (x y : Pr) : prOk (frDo k x y).1 := by
  rcases frDo_ok k x y with ⟨h, _⟩ | ⟨h, _⟩
  · exact prOk_of h
  · rw [h]; unfold prOk i64ok; decide
theorem frDo_valid {k : Nat} {x y : Pr} (h : (frDo k x y).2.1 = 0) : Fr1 (frDo k x y).1 ∧ (frDo k x y).2 = (0, 0) := by
  rcases frDo_ok k x y with h1 | ⟨_, h1⟩
  · exact h1
  · exact absurd h h1
theorem frDo_0 {x y : Pr} (hx : Fr1 x) (hy : Fr1 y) : frDo 0 x y = frAdd x y := by unfold frDo; exact if_pos (frBoth_iff.2 ⟨hx, hy⟩)
theorem frDo_1 {x y : Pr} (hx : Fr1 x) (hy : Fr1 y) : frDo 1 x y = frAdd x (frNeg y) := by unfold frDo; exact if_pos (frBoth_iff.2 ⟨hx, hy⟩)
theorem frDo_2 {x y : Pr} (hx : Fr1 x) (hy : Fr1 y) : frDo 2 x y = frMul x y := by unfold frDo; exact if_pos (frBoth_iff.2 ⟨hx, hy⟩)
theorem frDo_3 {x y : Pr} (hx : Fr1 x) (hy : Fr1 y) (h : y.1 ≠ 0) : frDo 3 x y = frMul x (frInv y) := by unfold frDo; rw [if_pos (frBoth_iff.2 ⟨hx, hy⟩)]; exact if_neg h
theorem frDo_both {k : Nat} {x y : Pr} (h : (frDo k x y).2.1 = 0) : Fr1 x ∧ Fr1 y := by
  unfold frDo at h
  by_cases hb : (frBoth x y).1 = 0
  · exact frBoth_iff.1 hb
  · rw [if_neg hb] at h; exact absurd h hb
/-- what a sum that fits is -/
theorem add_is {x y : Pr} (h : (frDo 0 x y).2.1 = 0) : Fr1 (frDo 0 x y).1 ∧ (frDo 0 x y).1.1 * (x.2 * y.2) = (x.1 * y.2 + y.1 * x.2) * (frDo 0 x y).1.2 := by
  obtain ⟨hx, hy⟩ := frDo_both h
  rw [frDo_0 hx hy] at h ⊢
  rcases frAdd_ok hx hy with ⟨h1, _, h2⟩ | h1
  · exact ⟨h1, h2⟩
  · rw [h1] at h; simp at h
theorem mul_is {x y : Pr} (h : (frDo 2 x y).2.1 = 0) : Fr1 (frDo 2 x y).1 ∧ (frDo 2 x y).1.1 * (x.2 * y.2) = (x.1 * y.1) * (frDo 2 x y).1.2 := by
  obtain ⟨hx, hy⟩ := frDo_both h
  rw [frDo_2 hx hy] at h ⊢
  rcases frMul_ok hx hy with ⟨h1, _, h2⟩ | h1
  · exact ⟨h1, h2⟩
  · rw [h1] at h; simp at h
theorem undo_add {x y : Pr} (h : (frDo 0 x y).2.1 = 0) : frDo 1 (frDo 0 x y).1 y = (x, (0, 0)) := by
  obtain ⟨hx, hy⟩ := frDo_both h
  obtain ⟨h1, h2⟩ := add_is h
  rw [frDo_1 h1 hy, sub_add hx hy h1 h2]
theorem undo_mul {x y : Pr} (h : (frDo 2 x y).2.1 = 0) (h0 : y.1 ≠ 0) : frDo 3 (frDo 2 x y).1 y = (x, (0, 0)) := by
  obtain ⟨hx, hy⟩ := frDo_both h
  obtain ⟨h1, h2⟩ := mul_is h
  rw [frDo_3 h1 hy h0, div_mul hx hy h1 h0 h2]
theorem distr {x y z : Pr} (h1 : (frDo 0 y z).2.1 = 0) (h2 : (frDo 2 x y).2.1 = 0) (h3 : (frDo 2 x z).2.1 = 0) : frDo 2 x (frDo 0 y z).1 = frDo 0 (frDo 2 x y).1 (frDo 2 x z).1 := by
  obtain ⟨hy, hz⟩ := frDo_both h1
  obtain ⟨hx, _⟩ := frDo_both h2
  obtain ⟨s1, s2⟩ := add_is h1
  obtain ⟨a1, a2⟩ := mul_is h2
  obtain ⟨b1, b2⟩ := mul_is h3
  rw [frDo_2 hx s1, frDo_0 a1 b1, mul_add hx hy hz s1 a1 b1 s2 a2 b2]
theorem frCompare_0 {x y : Pr} (h : (frCompare x y).2.1 = 0) : Fr1 x ∧ Fr1 y ∧ frCompare x y = (frCmp x y, (0, 0)) := by
  unfold frCompare at h
  by_cases hb : (frBoth x y).1 = 0
  · obtain ⟨hx, hy⟩ := frBoth_iff.1 hb
    exact ⟨hx, hy, frCompare_ok hb rfl⟩
  · rw [if_neg hb] at h; exact absurd h hb
theorem frCompare_v {x y : Pr} (hx : Fr1 x) (hy : Fr1 y) : frCompare x y = (frCmp x y, (0, 0)) := frCompare_ok (frBoth_iff.2 ⟨hx, hy⟩) rfl
theorem ord_add {x y z : Pr} (h : (frCompare x y).2.1 = 0) (h1 : (frDo 0 x z).2.1 = 0) (h2 : (frDo 0 y z).2.1 = 0) : frCompare (frDo 0 x z).1 (frDo 0 y z).1 = ((frCompare x y).1, (0, 0)) := by
  obtain ⟨hx, hy, e⟩ := frCompare_0 h
  obtain ⟨_, hz⟩ := frDo_both h1
  obtain ⟨a1, a2⟩ := add_is h1
  obtain ⟨b1, b2⟩ := add_is h2
  rw [frCompare_v a1 b1, e, cmp_add hx hy hz a1 b1 a2 b2]
theorem ord_mul {x y z : Pr} (h : (frCompare x y).2.1 = 0) (h1 : (frDo 2 x z).2.1 = 0) (h2 : (frDo 2 y z).2.1 = 0) :
    frCompare (frDo 2 x z).1 (frDo 2 y z).1 = (if z.1 = 0 then 0 else if z.1 < 0 then -(frCompare x y).1 else (frCompare x y).1, (0, 0)) := by
  obtain ⟨hx, hy, e⟩ := frCompare_0 h
  obtain ⟨_, hz⟩ := frDo_both h1
  obtain ⟨a1, a2⟩ := mul_is h1
  obtain ⟨b1, b2⟩ := mul_is h2
  rw [frCompare_v a1 b1, e, cmp_mul hx hy hz a1 b1 a2 b2]
theorem frCmp_le (x y : Pr) : -1 ≤ (frCompare x y).1 ∧ (frCompare x y).1 ≤ 1 := by
  unfold frCompare frCmp
  split
  · dsimp only; split
    · decide
    · split <;> decide
  · dsimp only; decide

theorem law3_spec (n d : Int) (hn : i64ok n) (hd : i64ok d) : FnV Try.prog 3 #[iv n, iv d] [] (.bool true) := by
  refine FnV.body0 (args := [iv n, iv d]) 31 Try.func3 rfl Try.ntmps3 rfl (fun c => ?_)
  refine St.seq ?_
  refine St.rg ?_
  refine St.ev _ (Ev.assign (Opd.mk rfl)) rfl ?_
  refine St.nil ?_
  refine St.then_normal ?_
  refine St.seq ?_
  refine St.seq ?_
  refine St.rg ?_
  refine St.ev _ (Ev.call (fracReady_spec) cb10 (Opds.nil)) rfl ?_
  refine St.ev _ (Ev.not (Opd.mk rfl)) rfl ?_
  refine St.nil ?_
  refine St.then_normal ?_
  refine St.condf _ rfl rfl ?_
  refine St.skip ?_
  refine St.then_normal ?_
  refine St.seq ?_
  refine St.rg ?_
  refine St.ev _ (Ev.move (Opd.mk rfl)) rfl ?_
  refine St.ev _ (Ev.move (Opd.mk rfl)) rfl ?_
  refine St.ev _ (Ev.call (Make_spec n d hn hd) cb11 (Opds.cons (Opd.mk rfl) (Opds.cons (Opd.mk rfl) Opds.nil))) rfl ?_
  refine St.ev _ (Ev.move (Opd.mk rfl)) rfl ?_
  refine St.ev _ (Ev.extract (Opd.mk rfl) rfl) rfl ?_
  refine St.ev _ (Ev.extract (Opd.mk rfl) rfl) rfl ?_
  refine St.alloc zc24 rfl (fun b5 => ?_)
  refine St.alloc zc26 rfl (fun b6 => ?_)
  refine St.storeA (Opd.mk rfl) (Opd.mk rfl) sz24 (by first | simp only [List.length_cons, List.length_nil] | rfl) rfl ?_
  refine St.storeA (Opd.mk rfl) (Opd.mk rfl) sz26 (by first | simp only [List.length_cons, List.length_nil] | rfl) rfl ?_
  refine St.nil ?_
  refine St.then_normal ?_
  refine St.seq ?_
  refine St.rg ?_
  refine St.ev _ (Ev.move (Opd.mk rfl)) rfl ?_
  refine St.ev _ (Ev.move (Opd.mk rfl)) rfl ?_
  refine St.ev _ (Ev.call (FracMake_spec n d hn hd) cb12 (Opds.cons (Opd.mk rfl) (Opds.cons (Opd.mk rfl) Opds.nil))) rfl ?_
  refine St.ev _ (Ev.move (Opd.mk rfl)) rfl ?_
  refine St.ev _ (Ev.extract (Opd.mk rfl) rfl) rfl ?_
  refine St.ev _ (Ev.extract (Opd.mk rfl) rfl) rfl ?_
  refine St.alloc zc24 rfl (fun b7 => ?_)
  refine St.alloc zc26 rfl (fun b8 => ?_)
  refine St.storeA (Opd.mk rfl) (Opd.mk rfl) sz24 (by first | simp only [List.length_cons, List.length_nil] | rfl) rfl ?_
  refine St.storeA (Opd.mk rfl) (Opd.mk rfl) sz26 (by first | simp only [List.length_cons, List.length_nil] | rfl) rfl ?_
  refine St.nil ?_
  refine St.then_normal ?_
  refine St.seq ?_
  refine St.rg ?_
  refine St.ev _ (Ev.ldbA (Opd.mk rfl) Try.underlying24 trivial (by exact sz24)) rfl ?_
  refine St.ev _ (Ev.ldbA (Opd.mk rfl) Try.underlying24 trivial (by exact sz24)) rfl ?_
  refine St.ev _ (Ev.structeql (Opd.mk rfl) (Opd.mk rfl) Try.eqGuardType24 (fun w => eqf24 _ _ _ _ w)) rfl ?_
  refine St.ev _ (Ev.move (Opd.mk rfl)) rfl ?_
  refine St.gt _ rfl rfl (fun hg => Ev.ldbA (Opd.mk rfl) Try.underlying26 trivial (by exact sz26)) rfl ?_
  refine St.gt _ rfl rfl (fun hg => Ev.ldbA (Opd.mk rfl) Try.underlying26 trivial (by exact sz26)) rfl ?_
  refine St.gt _ rfl rfl (fun hg => Ev.structeql (Opd.gv rfl hg) (Opd.gv rfl hg) Try.eqGuardType26 (fun w => eqf26 _ _ _ _ w)) rfl ?_
  refine St.ev _ (Ev.and (Opd.mk rfl) (fun hp => Opd.gv rfl hp)) rfl ?_
  refine St.ev _ (Ev.assign (Opd.mk rfl)) rfl ?_
  refine St.nil ?_
  refine St.then_normal ?_
  refine St.rett ?_
  refine St.rets [_] [] Try.results3 ⟨rfl, trivial⟩ ?_ (fun _ hw => hw.sub)
  exact be (by simp)

theorem law4_spec (x y : Pr) (hx : prOk x) (hy : prOk y) : FnV Try.prog 4 #[frv x, frv y] [] (.bool true) := by
  refine FnV.body0 (args := [frv x, frv y]) 39 Try.func4 rfl Try.ntmps4 rfl (fun c => ?_)
  refine St.seq ?_
  refine St.rg ?_
  refine St.boxA (Opd.mk rfl) rfl (fun b2 => ?_)
  refine St.boxA (Opd.mk rfl) rfl (fun b3 => ?_)
  refine St.ev _ (Ev.assign (Opd.mk rfl)) rfl ?_
  refine St.nil ?_
  refine St.then_normal ?_
  refine St.seq ?_
  refine St.seq ?_
  refine St.rg ?_
  refine St.ev _ (Ev.call (fracReady_spec) cb10 (Opds.nil)) rfl ?_
  refine St.ev _ (Ev.not (Opd.mk rfl)) rfl ?_
  refine St.nil ?_
  refine St.then_normal ?_
  refine St.condf _ rfl rfl ?_
  refine St.skip ?_
  refine St.then_normal ?_
  refine St.seq ?_
  refine St.rg ?_
  refine St.ev _ (Ev.ldbA (Opd.mk rfl) Try.underlying24 trivial (by exact sz24)) rfl ?_
  refine St.ev _ (Ev.ldbA (Opd.mk rfl) Try.underlying24 trivial (by exact sz24)) rfl ?_
  refine St.ev _ (Ev.call (Compare_spec x y hx hy) cb13 (Opds.cons (Opd.mk rfl) (Opds.cons (Opd.mk rfl) Opds.nil))) rfl ?_
  refine St.ev _ (Ev.move (Opd.mk rfl)) rfl ?_
  refine St.ev _ (Ev.extract (Opd.mk rfl) rfl) rfl ?_
  refine St.ev _ (Ev.extract (Opd.mk rfl) rfl) rfl ?_
  refine St.alloc zc26 rfl (fun b6 => ?_)
  refine St.ev _ (Ev.assign (Opd.mk rfl)) rfl ?_
  refine St.storeA (Opd.mk rfl) (Opd.mk rfl) sz26 (by first | simp only [List.length_cons, List.length_nil] | rfl) rfl ?_
  refine St.nil ?_
  refine St.then_normal ?_
  refine St.seq ?_
  refine St.rg ?_
  refine St.ev _ (Ev.ldbA (Opd.mk rfl) Try.underlying24 trivial (by exact sz24)) rfl ?_
  refine St.ev _ (Ev.ldbA (Opd.mk rfl) Try.underlying24 trivial (by exact sz24)) rfl ?_
  refine St.ev _ (Ev.call (FracBoth_spec x y hx hy) cb14 (Opds.cons (Opd.mk rfl) (Opds.cons (Opd.mk rfl) Opds.nil))) rfl ?_
  refine St.alloc zc26 rfl (fun b7 => ?_)
  refine St.storeA (Opd.mk rfl) (Opd.mk rfl) sz26 (by first | simp only [List.length_cons, List.length_nil] | rfl) rfl ?_
  refine St.nil ?_
  refine St.then_normal ?_
  refine St.seq ?_
  refine St.seq ?_
  refine St.rg ?_
  refine St.ev _ (Ev.fldb0 (Opd.mk rfl) fo26_0) rfl ?_
  refine St.ev _ (Ev.ldb (Opd.mk rfl) Try.underlying3 trivial (by rfl)) rfl ?_
  refine St.ev _ (Ev.neq (Opd.mk rfl) (Opd.mk rfl)) rfl ?_
  refine St.nil ?_
  refine St.then_normal ?_
  refine St.cond _ rfl (fun h21 => ?_) (fun h21 => ?_)
  · skip
    try simp only [Bool.and_true, Bool.true_and, decide_eq_true_eq, decide_eq_false_iff_not, Bool.and_eq_true, Bool.or_eq_true, Bool.and_eq_false_iff, Bool.or_eq_false_iff, Bool.not_eq_true', Bool.not_eq_false', beq_iff_eq, beq_eq_false_iff_ne, Int.not_lt, Int.not_le] at h21
    have hb : ¬ (frBoth x y).1 = 0 := by simpa using h21
    refine St.seq ?_
    refine St.rg ?_
    refine St.ev _ (Ev.ldbA (Opd.mk rfl) Try.underlying26 trivial (by exact sz26)) rfl ?_
    refine St.ev _ (Ev.ldbA (Opd.mk rfl) Try.underlying26 trivial (by exact sz26)) rfl ?_
    refine St.ev _ (Ev.structeql (Opd.mk rfl) (Opd.mk rfl) Try.eqGuardType26 (fun w => eqf26 _ _ _ _ w)) rfl ?_
    refine St.ev _ (Ev.move (Opd.mk rfl)) rfl ?_
    refine St.gt _ rfl rfl (fun hg => Ev.move (Opd.mk rfl)) rfl ?_
    refine St.gt _ rfl rfl (fun hg => Ev.eql (Opd.gv rfl hg) (Opd.mk rfl)) rfl ?_
    refine St.ev _ (Ev.and (Opd.mk rfl) (fun hp => Opd.gv rfl hp)) rfl ?_
    refine St.ev _ (Ev.assign (Opd.mk rfl)) rfl ?_
    refine St.nil ?_
    refine St.then_normal ?_
    refine St.rett ?_
    refine St.then_ret ?_
    refine St.rets [_] [] Try.results4 ⟨rfl, trivial⟩ ?_ (fun _ hw => hw.sub)
    exact be (by unfold frCompare; rw [if_neg hb]; simp)
  · skip
    try simp only [Bool.and_true, Bool.true_and, decide_eq_true_eq, decide_eq_false_iff_not, Bool.and_eq_true, Bool.or_eq_true, Bool.and_eq_false_iff, Bool.or_eq_false_iff, Bool.not_eq_true', Bool.not_eq_false', beq_iff_eq, beq_eq_false_iff_ne, Int.not_lt, Int.not_le] at h21
    have hb : (frBoth x y).1 = 0 := by simpa using h21
    obtain ⟨fx, fy⟩ := frBoth_iff.1 hb
    refine St.skip ?_
    refine St.then_normal ?_
    refine St.seq ?_
    refine St.rg ?_
    refine St.ev _ (Ev.fldb0 (Opd.mk rfl) fo26_0) rfl ?_
    refine St.ev _ (Ev.ldb (Opd.mk rfl) Try.underlying3 trivial (by rfl)) rfl ?_
    refine St.ev _ (Ev.eql (Opd.mk rfl) (Opd.mk rfl)) rfl ?_
    refine St.ev _ (Ev.move (Opd.mk rfl)) rfl ?_
    refine St.gt _ rfl rfl (fun hg => Ev.move (Opd.mk rfl)) rfl ?_
    refine St.gt _ rfl rfl (fun hg => Ev.ldbA (Opd.mk rfl) Try.underlying24 trivial (by exact sz24)) rfl ?_
    refine St.gt _ rfl rfl (fun hg => Ev.ldbA (Opd.mk rfl) Try.underlying24 trivial (by exact sz24)) rfl ?_
    refine St.gt _ rfl rfl (fun hg => Ev.call (FracCompare_spec x y fx fy) cb15 (Opds.cons (Opd.gv rfl hg) (Opds.cons (Opd.gv rfl hg) Opds.nil))) rfl ?_
    refine St.gt _ rfl rfl (fun hg => Ev.eql (Opd.gv rfl hg) (Opd.gv rfl hg)) rfl ?_
    refine St.ev _ (Ev.and (Opd.mk rfl) (fun hp => Opd.gv rfl hp)) rfl ?_
    refine St.ev _ (Ev.assign (Opd.mk rfl)) rfl ?_
    refine St.nil ?_
    refine St.then_normal ?_
    refine St.rett ?_
    refine St.rets [_] [] Try.results4 ⟨rfl, trivial⟩ ?_ (fun _ hw => hw.sub)
    exact be (by rw [frCompare_v fx fy]; simp)

theorem law9_spec (x y : Pr) (hx : prOk x) (hy : prOk y) : FnV Try.prog 9 #[frv x, frv y] [] (.bool true) := by
  refine FnV.body0 (args := [frv x, frv y]) 70 Try.func9 rfl Try.ntmps9 rfl (fun c => ?_)
  refine St.seq ?_
  refine St.rg ?_
  refine St.boxA (Opd.mk rfl) rfl (fun b2 => ?_)
  refine St.boxA (Opd.mk rfl) rfl (fun b3 => ?_)
  refine St.ev _ (Ev.assign (Opd.mk rfl)) rfl ?_
  refine St.nil ?_
  refine St.then_normal ?_
  refine St.seq ?_
  refine St.seq ?_
  refine St.rq mixed (by kernel_rfl) (Mm.drawn _ _) ?_
  refine Sq.ev _ (Ev.call (fracReady_spec) cb10 (Opds.nil)) rfl ?_
  refine Sq.ev _ (Ev.not (Opd.mk rfl)) rfl ?_
  refine Sq.ev _ (Ev.move (Opd.mk rfl)) rfl ?_
  refine Sq.gf _ rfl rfl (fun hg => Ev.ldbA (Opd.mk rfl) Try.underlying24 trivial (by exact sz24)) rfl ?_
  refine Sq.gf _ rfl rfl (fun hg => Ev.call (Validate_spec x hx) cb23 (Opds.cons (Opd.gv rfl hg) Opds.nil)) rfl ?_
  refine Sq.gf _ rfl rfl (fun hg => Ev.ldbA (Opd.mk rfl) Try.underlying24 trivial (by exact sz24)) rfl ?_
  refine Sq.gf _ rfl rfl (fun hg => Ev.call (FracFault_spec x.1 x.2 (-1) hx.1 hx.2) cb19 (Opds.cons (Opd.gv rfl hg) (Opds.cons (Opd.mk rfl) Opds.nil))) rfl ?_
  refine Sq.gf _ rfl rfl (fun hg => Ev.structneq (Opd.gv rfl hg) (Opd.gv rfl hg) Try.eqGuardType26 (fun w => eqf26 _ _ _ _ w)) rfl ?_
  refine Sq.ev _ (Ev.or (Opd.mk rfl) (fun hp => Opd.gv rfl hp)) rfl ?_
  refine Sq.nil ?_
  refine St.then_normal ?_
  refine St.condf _ rfl (by simp) ?_
  refine St.skip ?_
  refine St.then_normal ?_
  refine St.seq ?_
  refine St.seq ?_
  refine St.rg ?_
  refine St.ev _ (Ev.assign (Opd.mk rfl)) rfl ?_
  refine St.nil ?_
  refine St.then_normal ?_
  refine St.block ?_
  refine St.loopH (ι := Nat) (fun k T => (5, iv k) :: T) (fun k => [blk b2 (.cells #[iv x.1, iv x.2] 24 (0, 0)), blk b3 (.cells #[iv y.1, iv y.2] 24 (0, 0))]) (fun k => k ≤ 4) (fun k => 4 - k) 0 (Keep.cons 2 rfl (Keep.cons 3 rfl Keep.nil)) (by decide) (by repeat (first | exact Sub.nil | refine Sub.cons (by first | rfl | exact congrArg (fun z => some (iv z)) (by omega) | exact congrArg (fun z => some (Value.bool z)) (by first | assumption | exact Eq.symm (by assumption))) ?_)) (fun _ hw => hw.sub) ?_
  intro k hphi
  have hk := hphi
  refine St.seq ?_
  refine St.seq ?_
  refine St.rg ?_
  refine St.ev _ (Ev.move (Opd.mk rfl)) rfl ?_
  refine St.ev _ (Ev.lss (Opd.mk rfl) (Opd.mk rfl)) rfl ?_
  refine St.nil ?_
  refine St.then_normal ?_
  refine St.cond _ rfl (fun h20 => ?_) (fun h20 => ?_)
  · skip
    try simp only [Bool.and_true, Bool.true_and, decide_eq_true_eq, decide_eq_false_iff_not, Bool.and_eq_true, Bool.or_eq_true, Bool.and_eq_false_iff, Bool.or_eq_false_iff, Bool.not_eq_true', Bool.not_eq_false', beq_iff_eq, beq_eq_false_iff_ne, Int.not_lt, Int.not_le] at h20
    refine St.skip ?_
    refine St.then_normal ?_
    refine St.seq ?_
    refine St.block ?_
    refine St.seq ?_
    refine St.rg ?_
    refine St.ev _ (Ev.move (Opd.mk rfl)) rfl ?_
    refine St.ev _ (Ev.ldbA (Opd.mk rfl) Try.underlying24 trivial (by exact sz24)) rfl ?_
    refine St.ev _ (Ev.ldbA (Opd.mk rfl) Try.underlying24 trivial (by exact sz24)) rfl ?_
    refine St.ev _ (Ev.call (FracDo_spec k x y hx hy) cb24 (Opds.cons (Opd.mk rfl) (Opds.cons (Opd.mk rfl) (Opds.cons (Opd.mk rfl) Opds.nil)))) rfl ?_
    refine St.ev _ (Ev.move (Opd.mk rfl)) rfl ?_
    refine St.ev _ (Ev.extract (Opd.mk rfl) rfl) rfl ?_
    refine St.ev _ (Ev.extract (Opd.mk rfl) rfl) rfl ?_
    refine St.alloc zc24 rfl (fun b6 => ?_)
    refine St.alloc zc26 rfl (fun b7 => ?_)
    refine St.storeA (Opd.mk rfl) (Opd.mk rfl) sz24 (by first | simp only [List.length_cons, List.length_nil] | rfl) rfl ?_
    refine St.storeA (Opd.mk rfl) (Opd.mk rfl) sz26 (by first | simp only [List.length_cons, List.length_nil] | rfl) rfl ?_
    refine St.nil ?_
    refine St.then_normal ?_
    refine St.seq ?_
    refine St.rg ?_
    refine St.ev _ (Ev.build (ps := []) (Opds.nil) (fun w => bld24_  w)) rfl ?_
    refine St.ev _ (Ev.build (ps := []) (Opds.nil) (fun w => bld26_  w)) rfl ?_
    refine St.alloc zc24 rfl (fun b8 => ?_)
    refine St.alloc zc26 rfl (fun b9 => ?_)
    refine St.storeA (Opd.mk rfl) (Opd.mk rfl) sz24 (by first | simp only [List.length_cons, List.length_nil] | rfl) rfl ?_
    refine St.storeA (Opd.mk rfl) (Opd.mk rfl) sz26 (by first | simp only [List.length_cons, List.length_nil] | rfl) rfl ?_
    refine St.nil ?_
    refine St.then_normal ?_
    refine St.seq ?_
    refine St.seq ?_
    refine St.rg ?_
    refine St.ev _ (Ev.move (Opd.mk rfl)) rfl ?_
    refine St.ev _ (Ev.eql (Opd.mk rfl) (Opd.mk rfl)) rfl ?_
    refine St.nil ?_
    refine St.then_normal ?_
    refine St.cond _ rfl (fun h33 => ?_) (fun h33 => ?_)
    · skip
      try simp only [Bool.and_true, Bool.true_and, decide_eq_true_eq, decide_eq_false_iff_not, Bool.and_eq_true, Bool.or_eq_true, Bool.and_eq_false_iff, Bool.or_eq_false_iff, Bool.not_eq_true', Bool.not_eq_false', beq_iff_eq, beq_eq_false_iff_ne, Int.not_lt, Int.not_le] at h33
      obtain rfl : k = 0 := by omega
      refine St.rg ?_
      refine St.ev _ (Ev.ldbA (Opd.mk rfl) Try.underlying24 trivial (by exact sz24)) rfl ?_
      refine St.ev _ (Ev.ldbA (Opd.mk rfl) Try.underlying24 trivial (by exact sz24)) rfl ?_
      refine St.ev _ (Ev.call (Add_spec x y hx hy) cb16 (Opds.cons (Opd.mk rfl) (Opds.cons (Opd.mk rfl) Opds.nil))) rfl ?_
      refine St.ev _ (Ev.move (Opd.mk rfl)) rfl ?_
      refine St.ev _ (Ev.extract (Opd.mk rfl) rfl) rfl ?_
      refine St.ev _ (Ev.extract (Opd.mk rfl) rfl) rfl ?_
      refine St.storeA (Opd.mk rfl) (Opd.mk rfl) sz24 (by first | simp only [List.length_cons, List.length_nil] | rfl) rfl ?_
      refine St.storeA (Opd.mk rfl) (Opd.mk rfl) sz26 (by first | simp only [List.length_cons, List.length_nil] | rfl) rfl ?_
      refine St.nil ?_
      refine St.then_normal ?_
      refine St.seq ?_
      refine St.rg ?_
      refine St.ev _ (Ev.ldbA (Opd.mk rfl) Try.underlying26 trivial (by exact sz26)) rfl ?_
      refine St.ev _ (Ev.ldbA (Opd.mk rfl) Try.underlying26 trivial (by exact sz26)) rfl ?_
      refine St.ev _ (Ev.structneq (Opd.mk rfl) (Opd.mk rfl) Try.eqGuardType26 (fun w => eqf26 _ _ _ _ w)) rfl ?_
      refine St.ev _ (Ev.move (Opd.mk rfl)) rfl ?_
      refine St.gf _ rfl rfl (fun hg => Ev.ldbA (Opd.mk rfl) Try.underlying24 trivial (by exact sz24)) rfl ?_
      refine St.gf _ rfl rfl (fun hg => Ev.ldbA (Opd.mk rfl) Try.underlying24 trivial (by exact sz24)) rfl ?_
      refine St.gf _ rfl rfl (fun hg => Ev.structneq (Opd.gv rfl hg) (Opd.gv rfl hg) Try.eqGuardType24 (fun w => eqf24 _ _ _ _ w)) rfl ?_
      refine St.ev _ (Ev.or (Opd.mk rfl) (fun hp => Opd.gv rfl hp)) rfl ?_
      refine St.nil ?_
      refine St.then_normal ?_
      refine St.condf _ rfl (by simp) ?_
      refine St.skip ?_
      refine St.in_normal ?_
      refine St.then_normal ?_
      refine St.rg ?_
      refine St.ev _ (Ev.move (Opd.mk rfl)) rfl ?_
      refine St.ev _ (Ev.add (Opd.mk rfl) (Opd.mk rfl) (by omega)) rfl ?_
      refine St.ev _ (Ev.assign (Opd.mk rfl)) rfl ?_
      refine St.nil ?_
      refine St.then_normal ?_
      refine St.againH 1 (by decide) (by first | omega | (dsimp only; omega)) (by repeat (first | exact Sub.nil | refine Sub.cons (by first | rfl | exact congrArg (fun z => some (iv z)) (by omega) | exact congrArg (fun z => some (Value.bool z)) (by first | assumption | exact Eq.symm (by assumption))) ?_)) (fun _ hw => hw.sub)
    · skip
      try simp only [Bool.and_true, Bool.true_and, decide_eq_true_eq, decide_eq_false_iff_not, Bool.and_eq_true, Bool.or_eq_true, Bool.and_eq_false_iff, Bool.or_eq_false_iff, Bool.not_eq_true', Bool.not_eq_false', beq_iff_eq, beq_eq_false_iff_ne, Int.not_lt, Int.not_le] at h33
      refine St.seq ?_
      refine St.rg ?_
      refine St.ev _ (Ev.move (Opd.mk rfl)) rfl ?_
      refine St.ev _ (Ev.eql (Opd.mk rfl) (Opd.mk rfl)) rfl ?_
      refine St.nil ?_
      refine St.then_normal ?_
      refine St.cond _ rfl (fun h41 => ?_) (fun h41 => ?_)
      · skip
        try simp only [Bool.and_true, Bool.true_and, decide_eq_true_eq, decide_eq_false_iff_not, Bool.and_eq_true, Bool.or_eq_true, Bool.and_eq_false_iff, Bool.or_eq_false_iff, Bool.not_eq_true', Bool.not_eq_false', beq_iff_eq, beq_eq_false_iff_ne, Int.not_lt, Int.not_le] at h41
        obtain rfl : k = 1 := by omega
        refine St.rg ?_
        refine St.ev _ (Ev.ldbA (Opd.mk rfl) Try.underlying24 trivial (by exact sz24)) rfl ?_
        refine St.ev _ (Ev.ldbA (Opd.mk rfl) Try.underlying24 trivial (by exact sz24)) rfl ?_
        refine St.ev _ (Ev.call (Sub_spec x y hx hy) cb21 (Opds.cons (Opd.mk rfl) (Opds.cons (Opd.mk rfl) Opds.nil))) rfl ?_
        refine St.ev _ (Ev.move (Opd.mk rfl)) rfl ?_
        refine St.ev _ (Ev.extract (Opd.mk rfl) rfl) rfl ?_
        refine St.ev _ (Ev.extract (Opd.mk rfl) rfl) rfl ?_
        refine St.storeA (Opd.mk rfl) (Opd.mk rfl) sz24 (by first | simp only [List.length_cons, List.length_nil] | rfl) rfl ?_
        refine St.storeA (Opd.mk rfl) (Opd.mk rfl) sz26 (by first | simp only [List.length_cons, List.length_nil] | rfl) rfl ?_
        refine St.nil ?_
        refine St.then_normal ?_
        refine St.seq ?_
        refine St.rg ?_
        refine St.ev _ (Ev.ldbA (Opd.mk rfl) Try.underlying26 trivial (by exact sz26)) rfl ?_
        refine St.ev _ (Ev.ldbA (Opd.mk rfl) Try.underlying26 trivial (by exact sz26)) rfl ?_
        refine St.ev _ (Ev.structneq (Opd.mk rfl) (Opd.mk rfl) Try.eqGuardType26 (fun w => eqf26 _ _ _ _ w)) rfl ?_
        refine St.ev _ (Ev.move (Opd.mk rfl)) rfl ?_
        refine St.gf _ rfl rfl (fun hg => Ev.ldbA (Opd.mk rfl) Try.underlying24 trivial (by exact sz24)) rfl ?_
        refine St.gf _ rfl rfl (fun hg => Ev.ldbA (Opd.mk rfl) Try.underlying24 trivial (by exact sz24)) rfl ?_
        refine St.gf _ rfl rfl (fun hg => Ev.structneq (Opd.gv rfl hg) (Opd.gv rfl hg) Try.eqGuardType24 (fun w => eqf24 _ _ _ _ w)) rfl ?_
        refine St.ev _ (Ev.or (Opd.mk rfl) (fun hp => Opd.gv rfl hp)) rfl ?_
        refine St.nil ?_
        refine St.then_normal ?_
        refine St.condf _ rfl (by simp) ?_
        refine St.skip ?_
        refine St.in_normal ?_
        refine St.then_normal ?_
        refine St.rg ?_
        refine St.ev _ (Ev.move (Opd.mk rfl)) rfl ?_
        refine St.ev _ (Ev.add (Opd.mk rfl) (Opd.mk rfl) (by omega)) rfl ?_
        refine St.ev _ (Ev.assign (Opd.mk rfl)) rfl ?_
        refine St.nil ?_
        refine St.then_normal ?_
        refine St.againH 2 (by decide) (by first | omega | (dsimp only; omega)) (by repeat (first | exact Sub.nil | refine Sub.cons (by first | rfl | exact congrArg (fun z => some (iv z)) (by omega) | exact congrArg (fun z => some (Value.bool z)) (by first | assumption | exact Eq.symm (by assumption))) ?_)) (fun _ hw => hw.sub)
      · skip
        try simp only [Bool.and_true, Bool.true_and, decide_eq_true_eq, decide_eq_false_iff_not, Bool.and_eq_true, Bool.or_eq_true, Bool.and_eq_false_iff, Bool.or_eq_false_iff, Bool.not_eq_true', Bool.not_eq_false', beq_iff_eq, beq_eq_false_iff_ne, Int.not_lt, Int.not_le] at h41
        refine St.seq ?_
        refine St.rg ?_
        refine St.ev _ (Ev.move (Opd.mk rfl)) rfl ?_
        refine St.ev _ (Ev.eql (Opd.mk rfl) (Opd.mk rfl)) rfl ?_
        refine St.nil ?_
        refine St.then_normal ?_
        refine St.cond _ rfl (fun h49 => ?_) (fun h49 => ?_)
        · skip
          try simp only [Bool.and_true, Bool.true_and, decide_eq_true_eq, decide_eq_false_iff_not, Bool.and_eq_true, Bool.or_eq_true, Bool.and_eq_false_iff, Bool.or_eq_false_iff, Bool.not_eq_true', Bool.not_eq_false', beq_iff_eq, beq_eq_false_iff_ne, Int.not_lt, Int.not_le] at h49
          obtain rfl : k = 2 := by omega
          refine St.rg ?_
          refine St.ev _ (Ev.ldbA (Opd.mk rfl) Try.underlying24 trivial (by exact sz24)) rfl ?_
          refine St.ev _ (Ev.ldbA (Opd.mk rfl) Try.underlying24 trivial (by exact sz24)) rfl ?_
          refine St.ev _ (Ev.call (Mul_spec x y hx hy) cb17 (Opds.cons (Opd.mk rfl) (Opds.cons (Opd.mk rfl) Opds.nil))) rfl ?_
          refine St.ev _ (Ev.move (Opd.mk rfl)) rfl ?_
          refine St.ev _ (Ev.extract (Opd.mk rfl) rfl) rfl ?_
          refine St.ev _ (Ev.extract (Opd.mk rfl) rfl) rfl ?_
          refine St.storeA (Opd.mk rfl) (Opd.mk rfl) sz24 (by first | simp only [List.length_cons, List.length_nil] | rfl) rfl ?_
          refine St.storeA (Opd.mk rfl) (Opd.mk rfl) sz26 (by first | simp only [List.length_cons, List.length_nil] | rfl) rfl ?_
          refine St.nil ?_
          refine St.then_normal ?_
          refine St.seq ?_
          refine St.rg ?_
          refine St.ev _ (Ev.ldbA (Opd.mk rfl) Try.underlying26 trivial (by exact sz26)) rfl ?_
          refine St.ev _ (Ev.ldbA (Opd.mk rfl) Try.underlying26 trivial (by exact sz26)) rfl ?_
          refine St.ev _ (Ev.structneq (Opd.mk rfl) (Opd.mk rfl) Try.eqGuardType26 (fun w => eqf26 _ _ _ _ w)) rfl ?_
          refine St.ev _ (Ev.move (Opd.mk rfl)) rfl ?_
          refine St.gf _ rfl rfl (fun hg => Ev.ldbA (Opd.mk rfl) Try.underlying24 trivial (by exact sz24)) rfl ?_
          refine St.gf _ rfl rfl (fun hg => Ev.ldbA (Opd.mk rfl) Try.underlying24 trivial (by exact sz24)) rfl ?_
          refine St.gf _ rfl rfl (fun hg => Ev.structneq (Opd.gv rfl hg) (Opd.gv rfl hg) Try.eqGuardType24 (fun w => eqf24 _ _ _ _ w)) rfl ?_
          refine St.ev _ (Ev.or (Opd.mk rfl) (fun hp => Opd.gv rfl hp)) rfl ?_
          refine St.nil ?_
          refine St.then_normal ?_
          refine St.condf _ rfl (by simp) ?_
          refine St.skip ?_
          refine St.in_normal ?_
          refine St.then_normal ?_
          refine St.rg ?_
          refine St.ev _ (Ev.move (Opd.mk rfl)) rfl ?_
          refine St.ev _ (Ev.add (Opd.mk rfl) (Opd.mk rfl) (by omega)) rfl ?_
          refine St.ev _ (Ev.assign (Opd.mk rfl)) rfl ?_
          refine St.nil ?_
          refine St.then_normal ?_
          refine St.againH 3 (by decide) (by first | omega | (dsimp only; omega)) (by repeat (first | exact Sub.nil | refine Sub.cons (by first | rfl | exact congrArg (fun z => some (iv z)) (by omega) | exact congrArg (fun z => some (Value.bool z)) (by first | assumption | exact Eq.symm (by assumption))) ?_)) (fun _ hw => hw.sub)
        · skip
          try simp only [Bool.and_true, Bool.true_and, decide_eq_true_eq, decide_eq_false_iff_not, Bool.and_eq_true, Bool.or_eq_true, Bool.and_eq_false_iff, Bool.or_eq_false_iff, Bool.not_eq_true', Bool.not_eq_false', beq_iff_eq, beq_eq_false_iff_ne, Int.not_lt, Int.not_le] at h49
          obtain rfl : k = 3 := by omega
          refine St.rg ?_
          refine St.ev _ (Ev.ldbA (Opd.mk rfl) Try.underlying24 trivial (by exact sz24)) rfl ?_
          refine St.ev _ (Ev.ldbA (Opd.mk rfl) Try.underlying24 trivial (by exact sz24)) rfl ?_
          refine St.ev _ (Ev.call (Div_spec x y hx hy) cb22 (Opds.cons (Opd.mk rfl) (Opds.cons (Opd.mk rfl) Opds.nil))) rfl ?_
          refine St.ev _ (Ev.move (Opd.mk rfl)) rfl ?_
          refine St.ev _ (Ev.extract (Opd.mk rfl) rfl) rfl ?_
          refine St.ev _ (Ev.extract (Opd.mk rfl) rfl) rfl ?_
          refine St.storeA (Opd.mk rfl) (Opd.mk rfl) sz24 (by first | simp only [List.length_cons, List.length_nil] | rfl) rfl ?_
          refine St.storeA (Opd.mk rfl) (Opd.mk rfl) sz26 (by first | simp only [List.length_cons, List.length_nil] | rfl) rfl ?_
          refine St.nil ?_
          refine St.then_normal ?_
          refine St.seq ?_
          refine St.rg ?_
          refine St.ev _ (Ev.ldbA (Opd.mk rfl) Try.underlying26 trivial (by exact sz26)) rfl ?_
          refine St.ev _ (Ev.ldbA (Opd.mk rfl) Try.underlying26 trivial (by exact sz26)) rfl ?_
          refine St.ev _ (Ev.structneq (Opd.mk rfl) (Opd.mk rfl) Try.eqGuardType26 (fun w => eqf26 _ _ _ _ w)) rfl ?_
          refine St.ev _ (Ev.move (Opd.mk rfl)) rfl ?_
          refine St.gf _ rfl rfl (fun hg => Ev.ldbA (Opd.mk rfl) Try.underlying24 trivial (by exact sz24)) rfl ?_
          refine St.gf _ rfl rfl (fun hg => Ev.ldbA (Opd.mk rfl) Try.underlying24 trivial (by exact sz24)) rfl ?_
          refine St.gf _ rfl rfl (fun hg => Ev.structneq (Opd.gv rfl hg) (Opd.gv rfl hg) Try.eqGuardType24 (fun w => eqf24 _ _ _ _ w)) rfl ?_
          refine St.ev _ (Ev.or (Opd.mk rfl) (fun hp => Opd.gv rfl hp)) rfl ?_
          refine St.nil ?_
          refine St.then_normal ?_
          refine St.condf _ rfl (by simp) ?_
          refine St.skip ?_
          refine St.in_normal ?_
          refine St.then_normal ?_
          refine St.rg ?_
          refine St.ev _ (Ev.move (Opd.mk rfl)) rfl ?_
          refine St.ev _ (Ev.add (Opd.mk rfl) (Opd.mk rfl) (by omega)) rfl ?_
          refine St.ev _ (Ev.assign (Opd.mk rfl)) rfl ?_
          refine St.nil ?_
          refine St.then_normal ?_
          refine St.againH 4 (by decide) (by first | omega | (dsimp only; omega)) (by repeat (first | exact Sub.nil | refine Sub.cons (by first | rfl | exact congrArg (fun z => some (iv z)) (by omega) | exact congrArg (fun z => some (Value.bool z)) (by first | assumption | exact Eq.symm (by assumption))) ?_)) (fun _ hw => hw.sub)
  · skip
    try simp only [Bool.and_true, Bool.true_and, decide_eq_true_eq, decide_eq_false_iff_not, Bool.and_eq_true, Bool.or_eq_true, Bool.and_eq_false_iff, Bool.or_eq_false_iff, Bool.not_eq_true', Bool.not_eq_false', beq_iff_eq, beq_eq_false_iff_ne, Int.not_lt, Int.not_le] at h20
    refine St.exit ?_
    refine St.then_exit ?_
    refine St.then_exit ?_
    refine St.in_hit ?_
    refine St.then_normal ?_
    refine St.seq ?_
    refine St.rg ?_
    refine St.ev _ (Ev.assign (Opd.mk rfl)) rfl ?_
    refine St.nil ?_
    refine St.then_normal ?_
    refine St.rett ?_
    refine St.rets [_] [] Try.results9 ⟨rfl, trivial⟩ ?_ (fun _ hw => hw.sub)
    rfl

theorem law8_spec (x y : Pr) (hx : prOk x) (hy : prOk y) : FnV Try.prog 8 #[frv x, frv y] [] (.bool true) := by
  refine FnV.body0 (args := [frv x, frv y]) 70 Try.func8 rfl Try.ntmps8 rfl (fun c => ?_)
  refine St.seq ?_
  refine St.rg ?_
  refine St.boxA (Opd.mk rfl) rfl (fun b2 => ?_)
  refine St.boxA (Opd.mk rfl) rfl (fun b3 => ?_)
  refine St.ev _ (Ev.assign (Opd.mk rfl)) rfl ?_
  refine St.nil ?_
  refine St.then_normal ?_
  refine St.seq ?_
  refine St.seq ?_
  refine St.rg ?_
  refine St.ev _ (Ev.call (fracReady_spec) cb10 (Opds.nil)) rfl ?_
  refine St.ev _ (Ev.not (Opd.mk rfl)) rfl ?_
  refine St.nil ?_
  refine St.then_normal ?_
  refine St.condf _ rfl rfl ?_
  refine St.skip ?_
  refine St.then_normal ?_
  refine St.seq ?_
  refine St.seq ?_
  refine St.rg ?_
  refine St.ev _ (Ev.ldbA (Opd.mk rfl) Try.underlying24 trivial (by exact sz24)) rfl ?_
  refine St.ev _ (Ev.ldbA (Opd.mk rfl) Try.underlying24 trivial (by exact sz24)) rfl ?_
  refine St.ev _ (Ev.call (FracBoth_spec x y hx hy) cb14 (Opds.cons (Opd.mk rfl) (Opds.cons (Opd.mk rfl) Opds.nil))) rfl ?_
  refine St.ev _ (Ev.field1 (Opd.mk rfl) Try.underlying26 rfl (by first | rw [Try.underlying3] | (dsimp only; rw [Try.underlying3]) | kernel_rfl) rfl) rfl ?_
  refine St.ev _ (Ev.neq (Opd.mk rfl) (Opd.mk rfl)) rfl ?_
  refine St.nil ?_
  refine St.then_normal ?_
  refine St.cond _ rfl (fun h18 => ?_) (fun h18 => ?_)
  · skip
    try simp only [Bool.and_true, Bool.true_and, decide_eq_true_eq, decide_eq_false_iff_not, Bool.and_eq_true, Bool.or_eq_true, Bool.and_eq_false_iff, Bool.or_eq_false_iff, Bool.not_eq_true', Bool.not_eq_false', beq_iff_eq, beq_eq_false_iff_ne, Int.not_lt, Int.not_le] at h18
    refine St.seq ?_
    refine St.rg ?_
    refine St.ev _ (Ev.assign (Opd.mk rfl)) rfl ?_
    refine St.nil ?_
    refine St.then_normal ?_
    refine St.rett ?_
    refine St.then_ret ?_
    refine St.rets [_] [] Try.results8 ⟨rfl, trivial⟩ ?_ (fun _ hw => hw.sub)
    rfl
  · skip
    try simp only [Bool.and_true, Bool.true_and, decide_eq_true_eq, decide_eq_false_iff_not, Bool.and_eq_true, Bool.or_eq_true, Bool.and_eq_false_iff, Bool.or_eq_false_iff, Bool.not_eq_true', Bool.not_eq_false', beq_iff_eq, beq_eq_false_iff_ne, Int.not_lt, Int.not_le] at h18
    refine St.skip ?_
    refine St.then_normal ?_
    refine St.seq ?_
    refine St.rg ?_
    refine St.ev _ (Ev.ldbA (Opd.mk rfl) Try.underlying24 trivial (by exact sz24)) rfl ?_
    refine St.ev _ (Ev.ldbA (Opd.mk rfl) Try.underlying24 trivial (by exact sz24)) rfl ?_
    refine St.ev _ (Ev.call (Add_spec x y hx hy) cb16 (Opds.cons (Opd.mk rfl) (Opds.cons (Opd.mk rfl) Opds.nil))) rfl ?_
    refine St.ev _ (Ev.move (Opd.mk rfl)) rfl ?_
    refine St.ev _ (Ev.extract (Opd.mk rfl) rfl) rfl ?_
    refine St.ev _ (Ev.extract (Opd.mk rfl) rfl) rfl ?_
    refine St.alloc zc24 rfl (fun b5 => ?_)
    refine St.alloc zc26 rfl (fun b6 => ?_)
    refine St.storeA (Opd.mk rfl) (Opd.mk rfl) sz24 (by first | simp only [List.length_cons, List.length_nil] | rfl) rfl ?_
    refine St.storeA (Opd.mk rfl) (Opd.mk rfl) sz26 (by first | simp only [List.length_cons, List.length_nil] | rfl) rfl ?_
    refine St.nil ?_
    refine St.then_normal ?_
    refine St.seq ?_
    refine St.seq ?_
    refine St.rg ?_
    refine St.ev _ (Ev.fldb0 (Opd.mk rfl) fo26_0) rfl ?_
    refine St.ev _ (Ev.ldb (Opd.mk rfl) Try.underlying3 trivial (by rfl)) rfl ?_
    refine St.ev _ (Ev.eql (Opd.mk rfl) (Opd.mk rfl)) rfl ?_
    refine St.nil ?_
    refine St.then_normal ?_
    refine St.cond _ rfl (fun h27 => ?_) (fun h27 => ?_)
    · skip
      try simp only [Bool.and_true, Bool.true_and, decide_eq_true_eq, decide_eq_false_iff_not, Bool.and_eq_true, Bool.or_eq_true, Bool.and_eq_false_iff, Bool.or_eq_false_iff, Bool.not_eq_true', Bool.not_eq_false', beq_iff_eq, beq_eq_false_iff_ne, Int.not_lt, Int.not_le] at h27
      have hu := undo_add h27
      have hp := prOk_do 0 x y
      refine St.seq ?_
      refine St.rg ?_
      refine St.ev _ (Ev.ldbA (Opd.mk rfl) Try.underlying24 trivial (by exact sz24)) rfl ?_
      refine St.ev _ (Ev.ldbA (Opd.mk rfl) Try.underlying24 trivial (by exact sz24)) rfl ?_
      refine St.ev _ (Ev.call (Sub_spec (frDo 0 x y).1 y hp hy) cb21 (Opds.cons (Opd.mk rfl) (Opds.cons (Opd.mk rfl) Opds.nil))) rfl ?_
      refine St.slot 31 (frR (x, (0, 0))) rfl (by rw [hu]) ?_
      refine St.ev _ (Ev.move (Opd.mk rfl)) rfl ?_
      refine St.ev _ (Ev.extract (Opd.mk rfl) rfl) rfl ?_
      refine St.ev _ (Ev.extract (Opd.mk rfl) rfl) rfl ?_
      refine St.alloc zc24 rfl (fun b7 => ?_)
      refine St.alloc zc26 rfl (fun b8 => ?_)
      refine St.storeA (Opd.mk rfl) (Opd.mk rfl) sz24 (by first | simp only [List.length_cons, List.length_nil] | rfl) rfl ?_
      refine St.storeA (Opd.mk rfl) (Opd.mk rfl) sz26 (by first | simp only [List.length_cons, List.length_nil] | rfl) rfl ?_
      refine St.nil ?_
      refine St.then_normal ?_
      refine St.seq ?_
      refine St.rg ?_
      refine St.ev _ (Ev.fldb0 (Opd.mk rfl) fo26_0) rfl ?_
      refine St.ev _ (Ev.ldb (Opd.mk rfl) Try.underlying3 trivial (by rfl)) rfl ?_
      refine St.ev _ (Ev.neq (Opd.mk rfl) (Opd.mk rfl)) rfl ?_
      refine St.ev _ (Ev.move (Opd.mk rfl)) rfl ?_
      refine St.gf _ rfl rfl (fun hg => Ev.ldbA (Opd.mk rfl) Try.underlying24 trivial (by exact sz24)) rfl ?_
      refine St.gf _ rfl rfl (fun hg => Ev.ldbA (Opd.mk rfl) Try.underlying24 trivial (by exact sz24)) rfl ?_
      refine St.gf _ rfl rfl (fun hg => Ev.structneq (Opd.gv rfl hg) (Opd.gv rfl hg) Try.eqGuardType24 (fun w => eqf24 _ _ _ _ w)) rfl ?_
      refine St.ev _ (Ev.or (Opd.mk rfl) (fun hp => Opd.gv rfl hp)) rfl ?_
      refine St.nil ?_
      refine St.then_normal ?_
      refine St.condf _ rfl (by simp) ?_
      refine St.skip ?_
      refine St.then_normal ?_
      refine St.seq ?_
      refine St.rg ?_
      refine St.ev _ (Ev.ldbA (Opd.mk rfl) Try.underlying24 trivial (by exact sz24)) rfl ?_
      refine St.ev _ (Ev.ldbA (Opd.mk rfl) Try.underlying24 trivial (by exact sz24)) rfl ?_
      refine St.ev _ (Ev.call (Mul_spec x y hx hy) cb17 (Opds.cons (Opd.mk rfl) (Opds.cons (Opd.mk rfl) Opds.nil))) rfl ?_
      refine St.ev _ (Ev.move (Opd.mk rfl)) rfl ?_
      refine St.ev _ (Ev.extract (Opd.mk rfl) rfl) rfl ?_
      refine St.ev _ (Ev.extract (Opd.mk rfl) rfl) rfl ?_
      refine St.alloc zc24 rfl (fun b9 => ?_)
      refine St.storeA (Opd.mk rfl) (Opd.mk rfl) sz24 (by first | simp only [List.length_cons, List.length_nil] | rfl) rfl ?_
      refine St.storeA (Opd.mk rfl) (Opd.mk rfl) sz26 (by first | simp only [List.length_cons, List.length_nil] | rfl) rfl ?_
      refine St.nil ?_
      refine St.then_normal ?_
      refine St.seq ?_
      refine St.seq ?_
      refine St.rg ?_
      refine St.ev _ (Ev.fldb0 (Opd.mk rfl) fo26_0) rfl ?_
      refine St.ev _ (Ev.ldb (Opd.mk rfl) Try.underlying3 trivial (by rfl)) rfl ?_
      refine St.ev _ (Ev.eql (Opd.mk rfl) (Opd.mk rfl)) rfl ?_
      refine St.ev _ (Ev.move (Opd.mk rfl)) rfl ?_
      refine St.gt _ rfl rfl (fun hg => Ev.fldb0 (Opd.mk rfl) fo24_0) rfl ?_
      refine St.gt _ rfl rfl (fun hg => Ev.ldb (Opd.gv rfl hg) Try.underlying3 trivial (by rfl)) rfl ?_
      refine St.gt _ rfl rfl (fun hg => Ev.neq (Opd.gv rfl hg) (Opd.mk rfl)) rfl ?_
      refine St.ev _ (Ev.and (Opd.mk rfl) (fun hp => Opd.gv rfl hp)) rfl ?_
      refine St.nil ?_
      refine St.then_normal ?_
      refine St.cond _ rfl (fun h55 => ?_) (fun h55 => ?_)
      · skip
        try simp only [Bool.and_true, Bool.true_and, decide_eq_true_eq, decide_eq_false_iff_not, Bool.and_eq_true, Bool.or_eq_true, Bool.and_eq_false_iff, Bool.or_eq_false_iff, Bool.not_eq_true', Bool.not_eq_false', beq_iff_eq, beq_eq_false_iff_ne, Int.not_lt, Int.not_le] at h55
        have hu2 := undo_mul h55.1 (by simpa using h55.2)
        have hp2 := prOk_do 2 x y
        refine St.seq ?_
        refine St.rg ?_
        refine St.ev _ (Ev.ldbA (Opd.mk rfl) Try.underlying24 trivial (by exact sz24)) rfl ?_
        refine St.ev _ (Ev.ldbA (Opd.mk rfl) Try.underlying24 trivial (by exact sz24)) rfl ?_
        refine St.ev _ (Ev.call (Div_spec (frDo 2 x y).1 y hp2 hy) cb22 (Opds.cons (Opd.mk rfl) (Opds.cons (Opd.mk rfl) Opds.nil))) rfl ?_
        refine St.slot 59 (frR (x, (0, 0))) rfl (by rw [hu2]) ?_
        refine St.ev _ (Ev.move (Opd.mk rfl)) rfl ?_
        refine St.ev _ (Ev.extract (Opd.mk rfl) rfl) rfl ?_
        refine St.ev _ (Ev.extract (Opd.mk rfl) rfl) rfl ?_
        refine St.alloc zc24 rfl (fun b10 => ?_)
        refine St.alloc zc26 rfl (fun b11 => ?_)
        refine St.storeA (Opd.mk rfl) (Opd.mk rfl) sz24 (by first | simp only [List.length_cons, List.length_nil] | rfl) rfl ?_
        refine St.storeA (Opd.mk rfl) (Opd.mk rfl) sz26 (by first | simp only [List.length_cons, List.length_nil] | rfl) rfl ?_
        refine St.nil ?_
        refine St.then_normal ?_
        refine St.seq ?_
        refine St.rg ?_
        refine St.ev _ (Ev.fldb0 (Opd.mk rfl) fo26_0) rfl ?_
        refine St.ev _ (Ev.ldb (Opd.mk rfl) Try.underlying3 trivial (by rfl)) rfl ?_
        refine St.ev _ (Ev.neq (Opd.mk rfl) (Opd.mk rfl)) rfl ?_
        refine St.ev _ (Ev.move (Opd.mk rfl)) rfl ?_
        refine St.gf _ rfl rfl (fun hg => Ev.ldbA (Opd.mk rfl) Try.underlying24 trivial (by exact sz24)) rfl ?_
        refine St.gf _ rfl rfl (fun hg => Ev.ldbA (Opd.mk rfl) Try.underlying24 trivial (by exact sz24)) rfl ?_
        refine St.gf _ rfl rfl (fun hg => Ev.structneq (Opd.gv rfl hg) (Opd.gv rfl hg) Try.eqGuardType24 (fun w => eqf24 _ _ _ _ w)) rfl ?_
        refine St.ev _ (Ev.or (Opd.mk rfl) (fun hp => Opd.gv rfl hp)) rfl ?_
        refine St.nil ?_
        refine St.then_normal ?_
        refine St.condf _ rfl (by simp) ?_
        refine St.skip ?_
        refine St.then_normal ?_
        refine St.seq ?_
        refine St.rg ?_
        refine St.ev _ (Ev.assign (Opd.mk rfl)) rfl ?_
        refine St.nil ?_
        refine St.then_normal ?_
        refine St.rett ?_
        refine St.rets [_] [] Try.results8 ⟨rfl, trivial⟩ ?_ (fun _ hw => hw.sub)
        rfl
      · skip
        try simp only [Bool.and_true, Bool.true_and, decide_eq_true_eq, decide_eq_false_iff_not, Bool.and_eq_true, Bool.or_eq_true, Bool.and_eq_false_iff, Bool.or_eq_false_iff, Bool.not_eq_true', Bool.not_eq_false', beq_iff_eq, beq_eq_false_iff_ne, Int.not_lt, Int.not_le] at h55
        refine St.skip ?_
        refine St.then_normal ?_
        refine St.seq ?_
        refine St.rg ?_
        refine St.ev _ (Ev.assign (Opd.mk rfl)) rfl ?_
        refine St.nil ?_
        refine St.then_normal ?_
        refine St.rett ?_
        refine St.rets [_] [] Try.results8 ⟨rfl, trivial⟩ ?_ (fun _ hw => hw.sub)
        rfl
    · skip
      try simp only [Bool.and_true, Bool.true_and, decide_eq_true_eq, decide_eq_false_iff_not, Bool.and_eq_true, Bool.or_eq_true, Bool.and_eq_false_iff, Bool.or_eq_false_iff, Bool.not_eq_true', Bool.not_eq_false', beq_iff_eq, beq_eq_false_iff_ne, Int.not_lt, Int.not_le] at h27
      refine St.skip ?_
      refine St.then_normal ?_
      refine St.seq ?_
      refine St.rg ?_
      refine St.ev _ (Ev.ldbA (Opd.mk rfl) Try.underlying24 trivial (by exact sz24)) rfl ?_
      refine St.ev _ (Ev.ldbA (Opd.mk rfl) Try.underlying24 trivial (by exact sz24)) rfl ?_
      refine St.ev _ (Ev.call (Mul_spec x y hx hy) cb17 (Opds.cons (Opd.mk rfl) (Opds.cons (Opd.mk rfl) Opds.nil))) rfl ?_
      refine St.ev _ (Ev.move (Opd.mk rfl)) rfl ?_
      refine St.ev _ (Ev.extract (Opd.mk rfl) rfl) rfl ?_
      refine St.ev _ (Ev.extract (Opd.mk rfl) rfl) rfl ?_
      refine St.alloc zc24 rfl (fun b9 => ?_)
      refine St.storeA (Opd.mk rfl) (Opd.mk rfl) sz24 (by first | simp only [List.length_cons, List.length_nil] | rfl) rfl ?_
      refine St.storeA (Opd.mk rfl) (Opd.mk rfl) sz26 (by first | simp only [List.length_cons, List.length_nil] | rfl) rfl ?_
      refine St.nil ?_
      refine St.then_normal ?_
      refine St.seq ?_
      refine St.seq ?_
      refine St.rg ?_
      refine St.ev _ (Ev.fldb0 (Opd.mk rfl) fo26_0) rfl ?_
      refine St.ev _ (Ev.ldb (Opd.mk rfl) Try.underlying3 trivial (by rfl)) rfl ?_
      refine St.ev _ (Ev.eql (Opd.mk rfl) (Opd.mk rfl)) rfl ?_
      refine St.ev _ (Ev.move (Opd.mk rfl)) rfl ?_
      refine St.gt _ rfl rfl (fun hg => Ev.fldb0 (Opd.mk rfl) fo24_0) rfl ?_
      refine St.gt _ rfl rfl (fun hg => Ev.ldb (Opd.gv rfl hg) Try.underlying3 trivial (by rfl)) rfl ?_
      refine St.gt _ rfl rfl (fun hg => Ev.neq (Opd.gv rfl hg) (Opd.mk rfl)) rfl ?_
      refine St.ev _ (Ev.and (Opd.mk rfl) (fun hp => Opd.gv rfl hp)) rfl ?_
      refine St.nil ?_
      refine St.then_normal ?_
      refine St.cond _ rfl (fun h55 => ?_) (fun h55 => ?_)
      · skip
        try simp only [Bool.and_true, Bool.true_and, decide_eq_true_eq, decide_eq_false_iff_not, Bool.and_eq_true, Bool.or_eq_true, Bool.and_eq_false_iff, Bool.or_eq_false_iff, Bool.not_eq_true', Bool.not_eq_false', beq_iff_eq, beq_eq_false_iff_ne, Int.not_lt, Int.not_le] at h55
        have hu2 := undo_mul h55.1 (by simpa using h55.2)
        have hp2 := prOk_do 2 x y
        refine St.seq ?_
        refine St.rg ?_
        refine St.ev _ (Ev.ldbA (Opd.mk rfl) Try.underlying24 trivial (by exact sz24)) rfl ?_
        refine St.ev _ (Ev.ldbA (Opd.mk rfl) Try.underlying24 trivial (by exact sz24)) rfl ?_
        refine St.ev _ (Ev.call (Div_spec (frDo 2 x y).1 y hp2 hy) cb22 (Opds.cons (Opd.mk rfl) (Opds.cons (Opd.mk rfl) Opds.nil))) rfl ?_
        refine St.slot 59 (frR (x, (0, 0))) rfl (by rw [hu2]) ?_
        refine St.ev _ (Ev.move (Opd.mk rfl)) rfl ?_
        refine St.ev _ (Ev.extract (Opd.mk rfl) rfl) rfl ?_
        refine St.ev _ (Ev.extract (Opd.mk rfl) rfl) rfl ?_
        refine St.alloc zc24 rfl (fun b10 => ?_)
        refine St.alloc zc26 rfl (fun b11 => ?_)
        refine St.storeA (Opd.mk rfl) (Opd.mk rfl) sz24 (by first | simp only [List.length_cons, List.length_nil] | rfl) rfl ?_
        refine St.storeA (Opd.mk rfl) (Opd.mk rfl) sz26 (by first | simp only [List.length_cons, List.length_nil] | rfl) rfl ?_
        refine St.nil ?_
        refine St.then_normal ?_
        refine St.seq ?_
        refine St.rg ?_
        refine St.ev _ (Ev.fldb0 (Opd.mk rfl) fo26_0) rfl ?_
        refine St.ev _ (Ev.ldb (Opd.mk rfl) Try.underlying3 trivial (by rfl)) rfl ?_
        refine St.ev _ (Ev.neq (Opd.mk rfl) (Opd.mk rfl)) rfl ?_
        refine St.ev _ (Ev.move (Opd.mk rfl)) rfl ?_
        refine St.gf _ rfl rfl (fun hg => Ev.ldbA (Opd.mk rfl) Try.underlying24 trivial (by exact sz24)) rfl ?_
        refine St.gf _ rfl rfl (fun hg => Ev.ldbA (Opd.mk rfl) Try.underlying24 trivial (by exact sz24)) rfl ?_
        refine St.gf _ rfl rfl (fun hg => Ev.structneq (Opd.gv rfl hg) (Opd.gv rfl hg) Try.eqGuardType24 (fun w => eqf24 _ _ _ _ w)) rfl ?_
        refine St.ev _ (Ev.or (Opd.mk rfl) (fun hp => Opd.gv rfl hp)) rfl ?_
        refine St.nil ?_
        refine St.then_normal ?_
        refine St.condf _ rfl (by simp) ?_
        refine St.skip ?_
        refine St.then_normal ?_
        refine St.seq ?_
        refine St.rg ?_
        refine St.ev _ (Ev.assign (Opd.mk rfl)) rfl ?_
        refine St.nil ?_
        refine St.then_normal ?_
        refine St.rett ?_
        refine St.rets [_] [] Try.results8 ⟨rfl, trivial⟩ ?_ (fun _ hw => hw.sub)
        rfl
      · skip
        try simp only [Bool.and_true, Bool.true_and, decide_eq_true_eq, decide_eq_false_iff_not, Bool.and_eq_true, Bool.or_eq_true, Bool.and_eq_false_iff, Bool.or_eq_false_iff, Bool.not_eq_true', Bool.not_eq_false', beq_iff_eq, beq_eq_false_iff_ne, Int.not_lt, Int.not_le] at h55
        refine St.skip ?_
        refine St.then_normal ?_
        refine St.seq ?_
        refine St.rg ?_
        refine St.ev _ (Ev.assign (Opd.mk rfl)) rfl ?_
        refine St.nil ?_
        refine St.then_normal ?_
        refine St.rett ?_
        refine St.rets [_] [] Try.results8 ⟨rfl, trivial⟩ ?_ (fun _ hw => hw.sub)
        rfl

theorem law5_spec (x y z : Pr) (hx : prOk x) (hy : prOk y) (hz : prOk z) : FnV Try.prog 5 #[frv x, frv y, frv z] [] (.bool true) := by
  refine FnV.body0 (args := [frv x, frv y, frv z]) 85 Try.func5 rfl Try.ntmps5 rfl (fun c => ?_)
  refine St.seq ?_
  refine St.rg ?_
  refine St.boxA (Opd.mk rfl) rfl (fun b3 => ?_)
  refine St.boxA (Opd.mk rfl) rfl (fun b4 => ?_)
  refine St.boxA (Opd.mk rfl) rfl (fun b5 => ?_)
  refine St.ev _ (Ev.assign (Opd.mk rfl)) rfl ?_
  refine St.nil ?_
  refine St.then_normal ?_
  refine St.seq ?_
  refine St.seq ?_
  refine St.rg ?_
  refine St.ev _ (Ev.call (fracReady_spec) cb10 (Opds.nil)) rfl ?_
  refine St.ev _ (Ev.not (Opd.mk rfl)) rfl ?_
  refine St.nil ?_
  refine St.then_normal ?_
  refine St.condf _ rfl rfl ?_
  refine St.skip ?_
  refine St.then_normal ?_
  refine St.seq ?_
  refine St.rg ?_
  refine St.ev _ (Ev.ldbA (Opd.mk rfl) Try.underlying24 trivial (by exact sz24)) rfl ?_
  refine St.ev _ (Ev.ldbA (Opd.mk rfl) Try.underlying24 trivial (by exact sz24)) rfl ?_
  refine St.ev _ (Ev.call (Add_spec y z hy hz) cb16 (Opds.cons (Opd.mk rfl) (Opds.cons (Opd.mk rfl) Opds.nil))) rfl ?_
  refine St.ev _ (Ev.move (Opd.mk rfl)) rfl ?_
  refine St.ev _ (Ev.extract (Opd.mk rfl) rfl) rfl ?_
  refine St.ev _ (Ev.extract (Opd.mk rfl) rfl) rfl ?_
  refine St.alloc zc24 rfl (fun b7 => ?_)
  refine St.alloc zc26 rfl (fun b8 => ?_)
  refine St.storeA (Opd.mk rfl) (Opd.mk rfl) sz24 (by first | simp only [List.length_cons, List.length_nil] | rfl) rfl ?_
  refine St.storeA (Opd.mk rfl) (Opd.mk rfl) sz26 (by first | simp only [List.length_cons, List.length_nil] | rfl) rfl ?_
  refine St.nil ?_
  refine St.then_normal ?_
  refine St.seq ?_
  refine St.rg ?_
  refine St.ev _ (Ev.ldbA (Opd.mk rfl) Try.underlying24 trivial (by exact sz24)) rfl ?_
  refine St.ev _ (Ev.ldbA (Opd.mk rfl) Try.underlying24 trivial (by exact sz24)) rfl ?_
  refine St.ev _ (Ev.call (Mul_spec x y hx hy) cb17 (Opds.cons (Opd.mk rfl) (Opds.cons (Opd.mk rfl) Opds.nil))) rfl ?_
  refine St.ev _ (Ev.move (Opd.mk rfl)) rfl ?_
  refine St.ev _ (Ev.extract (Opd.mk rfl) rfl) rfl ?_
  refine St.ev _ (Ev.extract (Opd.mk rfl) rfl) rfl ?_
  refine St.alloc zc24 rfl (fun b9 => ?_)
  refine St.alloc zc26 rfl (fun b10 => ?_)
  refine St.storeA (Opd.mk rfl) (Opd.mk rfl) sz24 (by first | simp only [List.length_cons, List.length_nil] | rfl) rfl ?_
  refine St.storeA (Opd.mk rfl) (Opd.mk rfl) sz26 (by first | simp only [List.length_cons, List.length_nil] | rfl) rfl ?_
  refine St.nil ?_
  refine St.then_normal ?_
  refine St.seq ?_
  refine St.rg ?_
  refine St.ev _ (Ev.ldbA (Opd.mk rfl) Try.underlying24 trivial (by exact sz24)) rfl ?_
  refine St.ev _ (Ev.ldbA (Opd.mk rfl) Try.underlying24 trivial (by exact sz24)) rfl ?_
  refine St.ev _ (Ev.call (Mul_spec x z hx hz) cb17 (Opds.cons (Opd.mk rfl) (Opds.cons (Opd.mk rfl) Opds.nil))) rfl ?_
  refine St.ev _ (Ev.move (Opd.mk rfl)) rfl ?_
  refine St.ev _ (Ev.extract (Opd.mk rfl) rfl) rfl ?_
  refine St.ev _ (Ev.extract (Opd.mk rfl) rfl) rfl ?_
  refine St.alloc zc24 rfl (fun b11 => ?_)
  refine St.alloc zc26 rfl (fun b12 => ?_)
  refine St.storeA (Opd.mk rfl) (Opd.mk rfl) sz24 (by first | simp only [List.length_cons, List.length_nil] | rfl) rfl ?_
  refine St.storeA (Opd.mk rfl) (Opd.mk rfl) sz26 (by first | simp only [List.length_cons, List.length_nil] | rfl) rfl ?_
  refine St.nil ?_
  refine St.then_normal ?_
  refine St.seq ?_
  refine St.seq ?_
  refine St.rg ?_
  refine St.ev _ (Ev.fldb0 (Opd.mk rfl) fo26_0) rfl ?_
  refine St.ev _ (Ev.ldb (Opd.mk rfl) Try.underlying3 trivial (by rfl)) rfl ?_
  refine St.ev _ (Ev.neq (Opd.mk rfl) (Opd.mk rfl)) rfl ?_
  refine St.ev _ (Ev.move (Opd.mk rfl)) rfl ?_
  refine St.gf _ rfl rfl (fun hg => Ev.fldb0 (Opd.mk rfl) fo26_0) rfl ?_
  refine St.gf _ rfl rfl (fun hg => Ev.ldb (Opd.gv rfl hg) Try.underlying3 trivial (by rfl)) rfl ?_
  refine St.gf _ rfl rfl (fun hg => Ev.neq (Opd.gv rfl hg) (Opd.mk rfl)) rfl ?_
  refine St.ev _ (Ev.or (Opd.mk rfl) (fun hp => Opd.gv rfl hp)) rfl ?_
  refine St.ev _ (Ev.move (Opd.mk rfl)) rfl ?_
  refine St.gf _ rfl rfl (fun hg => Ev.fldb0 (Opd.mk rfl) fo26_0) rfl ?_
  refine St.gf _ rfl rfl (fun hg => Ev.ldb (Opd.gv rfl hg) Try.underlying3 trivial (by rfl)) rfl ?_
  refine St.gf _ rfl rfl (fun hg => Ev.neq (Opd.gv rfl hg) (Opd.mk rfl)) rfl ?_
  refine St.ev _ (Ev.or (Opd.mk rfl) (fun hp => Opd.gv rfl hp)) rfl ?_
  refine St.nil ?_
  refine St.then_normal ?_
  refine St.cond _ rfl (fun h49 => ?_) (fun h49 => ?_)
  · skip
    try simp only [Bool.and_true, Bool.true_and, decide_eq_true_eq, decide_eq_false_iff_not, Bool.and_eq_true, Bool.or_eq_true, Bool.and_eq_false_iff, Bool.or_eq_false_iff, Bool.not_eq_true', Bool.not_eq_false', beq_iff_eq, beq_eq_false_iff_ne, Int.not_lt, Int.not_le] at h49
    refine St.seq ?_
    refine St.rg ?_
    refine St.ev _ (Ev.assign (Opd.mk rfl)) rfl ?_
    refine St.nil ?_
    refine St.then_normal ?_
    refine St.rett ?_
    refine St.then_ret ?_
    refine St.rets [_] [] Try.results5 ⟨rfl, trivial⟩ ?_ (fun _ hw => hw.sub)
    rfl
  · skip
    try simp only [Bool.and_true, Bool.true_and, decide_eq_true_eq, decide_eq_false_iff_not, Bool.and_eq_true, Bool.or_eq_true, Bool.and_eq_false_iff, Bool.or_eq_false_iff, Bool.not_eq_true', Bool.not_eq_false', beq_iff_eq, beq_eq_false_iff_ne, Int.not_lt, Int.not_le] at h49
    have hd := distr (x := x) (y := y) (z := z) (by omega) (by omega) (by omega)
    refine St.skip ?_
    refine St.then_normal ?_
    refine St.seq ?_
    refine St.rg ?_
    refine St.ev _ (Ev.ldbA (Opd.mk rfl) Try.underlying24 trivial (by exact sz24)) rfl ?_
    refine St.ev _ (Ev.ldbA (Opd.mk rfl) Try.underlying24 trivial (by exact sz24)) rfl ?_
    refine St.ev _ (Ev.call (Mul_spec x (frDo 0 y z).1 hx (prOk_do 0 y z)) cb17 (Opds.cons (Opd.mk rfl) (Opds.cons (Opd.mk rfl) Opds.nil))) rfl ?_
    refine St.slot 53 (frR (frDo 0 (frDo 2 x y).1 (frDo 2 x z).1)) rfl (by rw [hd]) ?_
    refine St.ev _ (Ev.move (Opd.mk rfl)) rfl ?_
    refine St.ev _ (Ev.extract (Opd.mk rfl) rfl) rfl ?_
    refine St.ev _ (Ev.extract (Opd.mk rfl) rfl) rfl ?_
    refine St.alloc zc24 rfl (fun b13 => ?_)
    refine St.alloc zc26 rfl (fun b14 => ?_)
    refine St.storeA (Opd.mk rfl) (Opd.mk rfl) sz24 (by first | simp only [List.length_cons, List.length_nil] | rfl) rfl ?_
    refine St.storeA (Opd.mk rfl) (Opd.mk rfl) sz26 (by first | simp only [List.length_cons, List.length_nil] | rfl) rfl ?_
    refine St.nil ?_
    refine St.then_normal ?_
    refine St.seq ?_
    refine St.rg ?_
    refine St.ev _ (Ev.ldbA (Opd.mk rfl) Try.underlying24 trivial (by exact sz24)) rfl ?_
    refine St.ev _ (Ev.ldbA (Opd.mk rfl) Try.underlying24 trivial (by exact sz24)) rfl ?_
    refine St.ev _ (Ev.call (Add_spec (frDo 2 x y).1 (frDo 2 x z).1 (prOk_do 2 x y) (prOk_do 2 x z)) cb16 (Opds.cons (Opd.mk rfl) (Opds.cons (Opd.mk rfl) Opds.nil))) rfl ?_
    refine St.ev _ (Ev.move (Opd.mk rfl)) rfl ?_
    refine St.ev _ (Ev.extract (Opd.mk rfl) rfl) rfl ?_
    refine St.ev _ (Ev.extract (Opd.mk rfl) rfl) rfl ?_
    refine St.alloc zc24 rfl (fun b15 => ?_)
    refine St.alloc zc26 rfl (fun b16 => ?_)
    refine St.storeA (Opd.mk rfl) (Opd.mk rfl) sz24 (by first | simp only [List.length_cons, List.length_nil] | rfl) rfl ?_
    refine St.storeA (Opd.mk rfl) (Opd.mk rfl) sz26 (by first | simp only [List.length_cons, List.length_nil] | rfl) rfl ?_
    refine St.nil ?_
    refine St.then_normal ?_
    refine St.seq ?_
    refine St.rg ?_
    refine St.ev _ (Ev.fldb0 (Opd.mk rfl) fo26_0) rfl ?_
    refine St.ev _ (Ev.ldb (Opd.mk rfl) Try.underlying3 trivial (by rfl)) rfl ?_
    refine St.ev _ (Ev.neq (Opd.mk rfl) (Opd.mk rfl)) rfl ?_
    refine St.ev _ (Ev.move (Opd.mk rfl)) rfl ?_
    refine St.gt _ rfl rfl (fun hg => Ev.fldb0 (Opd.mk rfl) fo26_0) rfl ?_
    refine St.gt _ rfl rfl (fun hg => Ev.ldb (Opd.gv rfl hg) Try.underlying3 trivial (by rfl)) rfl ?_
    refine St.gt _ rfl rfl (fun hg => Ev.neq (Opd.gv rfl hg) (Opd.mk rfl)) rfl ?_
    refine St.ev _ (Ev.and (Opd.mk rfl) (fun hp => Opd.gv rfl hp)) rfl ?_
    refine St.ev _ (Ev.move (Opd.mk rfl)) rfl ?_
    refine St.gf _ rfl rfl (fun hg => Ev.fldb0 (Opd.mk rfl) fo26_0) rfl ?_
    refine St.gf _ rfl rfl (fun hg => Ev.ldb (Opd.gv rfl hg) Try.underlying3 trivial (by rfl)) rfl ?_
    refine St.gf _ rfl rfl (fun hg => Ev.eql (Opd.gv rfl hg) (Opd.mk rfl)) rfl ?_
    refine St.gf _ rfl rfl (fun hg => Ev.move (Opd.gv rfl hg)) rfl ?_
    refine St.gct _ rfl rfl (fun hg => Ev.fldb0 (Opd.mk rfl) fo26_0) rfl ?_
    refine St.gct _ rfl rfl (fun hg => Ev.ldb (Opd.gv rfl hg) Try.underlying3 trivial (by rfl)) rfl ?_
    refine St.gct _ rfl rfl (fun hg => Ev.eql (Opd.gv rfl hg) (Opd.mk rfl)) rfl ?_
    refine St.gf _ rfl rfl (fun hg => Ev.and (Opd.gv rfl hg) (fun hp => Opd.gv rfl (and_i hg hp))) rfl ?_
    refine St.gf _ rfl rfl (fun hg => Ev.move (Opd.gv rfl hg)) rfl ?_
    refine St.gct _ rfl rfl (fun hg => Ev.ldbA (Opd.mk rfl) Try.underlying24 trivial (by exact sz24)) rfl ?_
    refine St.gct _ rfl rfl (fun hg => Ev.ldbA (Opd.mk rfl) Try.underlying24 trivial (by exact sz24)) rfl ?_
    refine St.gct _ rfl rfl (fun hg => Ev.structeql (Opd.gv rfl hg) (Opd.gv rfl hg) Try.eqGuardType24 (fun w => eqf24 _ _ _ _ w)) rfl ?_
    refine St.gf _ rfl rfl (fun hg => Ev.and (Opd.gv rfl hg) (fun hp => Opd.gv rfl (and_i hg hp))) rfl ?_
    refine St.ev _ (Ev.or (Opd.mk rfl) (fun hp => Opd.gv rfl hp)) rfl ?_
    refine St.ev _ (Ev.assign (Opd.mk rfl)) rfl ?_
    refine St.nil ?_
    refine St.then_normal ?_
    refine St.rett ?_
    refine St.rets [_] [] Try.results5 ⟨rfl, trivial⟩ ?_ (fun _ hw => hw.sub)
    generalize frDo 0 (frDo 2 x y).1 (frDo 2 x z).1 = r
    refine be ?_
    by_cases h : r.2.1 = 0 <;> simp [h]

set_option maxHeartbeats 1000000 in
theorem law6_spec (x y z : Pr) (hx : prOk x) (hy : prOk y) (hz : prOk z) : FnV Try.prog 6 #[frv x, frv y, frv z] [] (.bool true) := by
  refine FnV.body0 (args := [frv x, frv y, frv z]) 106 Try.func6 rfl Try.ntmps6 rfl (fun c => ?_)
  refine St.seq ?_
  refine St.rg ?_
  refine St.boxA (Opd.mk rfl) rfl (fun b3 => ?_)
  refine St.boxA (Opd.mk rfl) rfl (fun b4 => ?_)
  refine St.boxA (Opd.mk rfl) rfl (fun b5 => ?_)
  refine St.ev _ (Ev.assign (Opd.mk rfl)) rfl ?_
  refine St.nil ?_
  refine St.then_normal ?_
  refine St.seq ?_
  refine St.seq ?_
  refine St.rg ?_
  refine St.ev _ (Ev.call (fracReady_spec) cb10 (Opds.nil)) rfl ?_
  refine St.ev _ (Ev.not (Opd.mk rfl)) rfl ?_
  refine St.nil ?_
  refine St.then_normal ?_
  refine St.condf _ rfl rfl ?_
  refine St.skip ?_
  refine St.then_normal ?_
  refine St.seq ?_
  have hle := frCmp_le x y
  refine St.rg ?_
  refine St.ev _ (Ev.ldbA (Opd.mk rfl) Try.underlying24 trivial (by exact sz24)) rfl ?_
  refine St.ev _ (Ev.ldbA (Opd.mk rfl) Try.underlying24 trivial (by exact sz24)) rfl ?_
  refine St.ev _ (Ev.call (Compare_spec x y hx hy) cb13 (Opds.cons (Opd.mk rfl) (Opds.cons (Opd.mk rfl) Opds.nil))) rfl ?_
  refine St.ev _ (Ev.move (Opd.mk rfl)) rfl ?_
  refine St.ev _ (Ev.extract (Opd.mk rfl) rfl) rfl ?_
  refine St.ev _ (Ev.extract (Opd.mk rfl) rfl) rfl ?_
  refine St.alloc zc26 rfl (fun b8 => ?_)
  refine St.ev _ (Ev.assign (Opd.mk rfl)) rfl ?_
  refine St.storeA (Opd.mk rfl) (Opd.mk rfl) sz26 (by first | simp only [List.length_cons, List.length_nil] | rfl) rfl ?_
  refine St.nil ?_
  refine St.then_normal ?_
  refine St.seq ?_
  refine St.seq ?_
  refine St.rg ?_
  refine St.ev _ (Ev.fldb0 (Opd.mk rfl) fo26_0) rfl ?_
  refine St.ev _ (Ev.ldb (Opd.mk rfl) Try.underlying3 trivial (by rfl)) rfl ?_
  refine St.ev _ (Ev.neq (Opd.mk rfl) (Opd.mk rfl)) rfl ?_
  refine St.nil ?_
  refine St.then_normal ?_
  refine St.cond _ rfl (fun h28 => ?_) (fun h28 => ?_)
  · skip
    try simp only [Bool.and_true, Bool.true_and, decide_eq_true_eq, decide_eq_false_iff_not, Bool.and_eq_true, Bool.or_eq_true, Bool.and_eq_false_iff, Bool.or_eq_false_iff, Bool.not_eq_true', Bool.not_eq_false', beq_iff_eq, beq_eq_false_iff_ne, Int.not_lt, Int.not_le] at h28
    refine St.seq ?_
    refine St.rg ?_
    refine St.ev _ (Ev.assign (Opd.mk rfl)) rfl ?_
    refine St.nil ?_
    refine St.then_normal ?_
    refine St.rett ?_
    refine St.then_ret ?_
    refine St.rets [_] [] Try.results6 ⟨rfl, trivial⟩ ?_ (fun _ hw => hw.sub)
    rfl
  · skip
    try simp only [Bool.and_true, Bool.true_and, decide_eq_true_eq, decide_eq_false_iff_not, Bool.and_eq_true, Bool.or_eq_true, Bool.and_eq_false_iff, Bool.or_eq_false_iff, Bool.not_eq_true', Bool.not_eq_false', beq_iff_eq, beq_eq_false_iff_ne, Int.not_lt, Int.not_le] at h28
    have hc : (frCompare x y).2.1 = 0 := by simpa using h28
    refine St.skip ?_
    refine St.then_normal ?_
    refine St.seq ?_
    refine St.rg ?_
    refine St.ev _ (Ev.ldbA (Opd.mk rfl) Try.underlying24 trivial (by exact sz24)) rfl ?_
    refine St.ev _ (Ev.ldbA (Opd.mk rfl) Try.underlying24 trivial (by exact sz24)) rfl ?_
    refine St.ev _ (Ev.call (Add_spec x z hx hz) cb16 (Opds.cons (Opd.mk rfl) (Opds.cons (Opd.mk rfl) Opds.nil))) rfl ?_
    refine St.ev _ (Ev.move (Opd.mk rfl)) rfl ?_
    refine St.ev _ (Ev.extract (Opd.mk rfl) rfl) rfl ?_
    refine St.ev _ (Ev.extract (Opd.mk rfl) rfl) rfl ?_
    refine St.alloc zc24 rfl (fun b9 => ?_)
    refine St.alloc zc26 rfl (fun b10 => ?_)
    refine St.storeA (Opd.mk rfl) (Opd.mk rfl) sz24 (by first | simp only [List.length_cons, List.length_nil] | rfl) rfl ?_
    refine St.storeA (Opd.mk rfl) (Opd.mk rfl) sz26 (by first | simp only [List.length_cons, List.length_nil] | rfl) rfl ?_
    refine St.nil ?_
    refine St.then_normal ?_
    refine St.seq ?_
    refine St.rg ?_
    refine St.ev _ (Ev.ldbA (Opd.mk rfl) Try.underlying24 trivial (by exact sz24)) rfl ?_
    refine St.ev _ (Ev.ldbA (Opd.mk rfl) Try.underlying24 trivial (by exact sz24)) rfl ?_
    refine St.ev _ (Ev.call (Add_spec y z hy hz) cb16 (Opds.cons (Opd.mk rfl) (Opds.cons (Opd.mk rfl) Opds.nil))) rfl ?_
    refine St.ev _ (Ev.move (Opd.mk rfl)) rfl ?_
    refine St.ev _ (Ev.extract (Opd.mk rfl) rfl) rfl ?_
    refine St.ev _ (Ev.extract (Opd.mk rfl) rfl) rfl ?_
    refine St.alloc zc24 rfl (fun b11 => ?_)
    refine St.alloc zc26 rfl (fun b12 => ?_)
    refine St.storeA (Opd.mk rfl) (Opd.mk rfl) sz24 (by first | simp only [List.length_cons, List.length_nil] | rfl) rfl ?_
    refine St.storeA (Opd.mk rfl) (Opd.mk rfl) sz26 (by first | simp only [List.length_cons, List.length_nil] | rfl) rfl ?_
    refine St.nil ?_
    refine St.then_normal ?_
    refine St.seq ?_
    refine St.seq ?_
    refine St.rg ?_
    refine St.ev _ (Ev.fldb0 (Opd.mk rfl) fo26_0) rfl ?_
    refine St.ev _ (Ev.ldb (Opd.mk rfl) Try.underlying3 trivial (by rfl)) rfl ?_
    refine St.ev _ (Ev.eql (Opd.mk rfl) (Opd.mk rfl)) rfl ?_
    refine St.ev _ (Ev.move (Opd.mk rfl)) rfl ?_
    refine St.gt _ rfl rfl (fun hg => Ev.fldb0 (Opd.mk rfl) fo26_0) rfl ?_
    refine St.gt _ rfl rfl (fun hg => Ev.ldb (Opd.gv rfl hg) Try.underlying3 trivial (by rfl)) rfl ?_
    refine St.gt _ rfl rfl (fun hg => Ev.eql (Opd.gv rfl hg) (Opd.mk rfl)) rfl ?_
    refine St.ev _ (Ev.and (Opd.mk rfl) (fun hp => Opd.gv rfl hp)) rfl ?_
    refine St.nil ?_
    refine St.then_normal ?_
    refine St.cond _ rfl (fun h48 => ?_) (fun h48 => ?_)
    · skip
      try simp only [Bool.and_true, Bool.true_and, decide_eq_true_eq, decide_eq_false_iff_not, Bool.and_eq_true, Bool.or_eq_true, Bool.and_eq_false_iff, Bool.or_eq_false_iff, Bool.not_eq_true', Bool.not_eq_false', beq_iff_eq, beq_eq_false_iff_ne, Int.not_lt, Int.not_le] at h48
      have ha := ord_add hc h48.1 h48.2
      refine St.seq ?_
      refine St.rg ?_
      refine St.ev _ (Ev.ldbA (Opd.mk rfl) Try.underlying24 trivial (by exact sz24)) rfl ?_
      refine St.ev _ (Ev.ldbA (Opd.mk rfl) Try.underlying24 trivial (by exact sz24)) rfl ?_
      refine St.ev _ (Ev.call (Compare_spec (frDo 0 x z).1 (frDo 0 y z).1 (prOk_do 0 x z) (prOk_do 0 y z)) cb13 (Opds.cons (Opd.mk rfl) (Opds.cons (Opd.mk rfl) Opds.nil))) rfl ?_
      refine St.slot 52 (.tuple #[iv (frCompare x y).1, fv (0, 0)]) rfl (by rw [ha]) ?_
      refine St.ev _ (Ev.move (Opd.mk rfl)) rfl ?_
      refine St.ev _ (Ev.extract (Opd.mk rfl) rfl) rfl ?_
      refine St.ev _ (Ev.extract (Opd.mk rfl) rfl) rfl ?_
      refine St.alloc zc26 rfl (fun b14 => ?_)
      refine St.ev _ (Ev.assign (Opd.mk rfl)) rfl ?_
      refine St.storeA (Opd.mk rfl) (Opd.mk rfl) sz26 (by first | simp only [List.length_cons, List.length_nil] | rfl) rfl ?_
      refine St.nil ?_
      refine St.then_normal ?_
      refine St.seq ?_
      refine St.rg ?_
      refine St.ev _ (Ev.fldb0 (Opd.mk rfl) fo26_0) rfl ?_
      refine St.ev _ (Ev.ldb (Opd.mk rfl) Try.underlying3 trivial (by rfl)) rfl ?_
      refine St.ev _ (Ev.neq (Opd.mk rfl) (Opd.mk rfl)) rfl ?_
      refine St.ev _ (Ev.move (Opd.mk rfl)) rfl ?_
      refine St.gf _ rfl rfl (fun hg => Ev.move (Opd.mk rfl)) rfl ?_
      refine St.gf _ rfl rfl (fun hg => Ev.move (Opd.mk rfl)) rfl ?_
      refine St.gf _ rfl rfl (fun hg => Ev.neq (Opd.gv rfl hg) (Opd.gv rfl hg)) rfl ?_
      refine St.ev _ (Ev.or (Opd.mk rfl) (fun hp => Opd.gv rfl hp)) rfl ?_
      refine St.nil ?_
      refine St.then_normal ?_
      refine St.condf _ rfl (by simp) ?_
      refine St.skip ?_
      refine St.then_normal ?_
      refine St.seq ?_
      refine St.rg ?_
      refine St.ev _ (Ev.ldbA (Opd.mk rfl) Try.underlying24 trivial (by exact sz24)) rfl ?_
      refine St.ev _ (Ev.ldbA (Opd.mk rfl) Try.underlying24 trivial (by exact sz24)) rfl ?_
      refine St.ev _ (Ev.call (Mul_spec x z hx hz) cb17 (Opds.cons (Opd.mk rfl) (Opds.cons (Opd.mk rfl) Opds.nil))) rfl ?_
      refine St.ev _ (Ev.move (Opd.mk rfl)) rfl ?_
      refine St.ev _ (Ev.extract (Opd.mk rfl) rfl) rfl ?_
      refine St.ev _ (Ev.extract (Opd.mk rfl) rfl) rfl ?_
      refine St.storeA (Opd.mk rfl) (Opd.mk rfl) sz24 (by first | simp only [List.length_cons, List.length_nil] | rfl) rfl ?_
      refine St.storeA (Opd.mk rfl) (Opd.mk rfl) sz26 (by first | simp only [List.length_cons, List.length_nil] | rfl) rfl ?_
      refine St.nil ?_
      refine St.then_normal ?_
      refine St.seq ?_
      refine St.rg ?_
      refine St.ev _ (Ev.ldbA (Opd.mk rfl) Try.underlying24 trivial (by exact sz24)) rfl ?_
      refine St.ev _ (Ev.ldbA (Opd.mk rfl) Try.underlying24 trivial (by exact sz24)) rfl ?_
      refine St.ev _ (Ev.call (Mul_spec y z hy hz) cb17 (Opds.cons (Opd.mk rfl) (Opds.cons (Opd.mk rfl) Opds.nil))) rfl ?_
      refine St.ev _ (Ev.move (Opd.mk rfl)) rfl ?_
      refine St.ev _ (Ev.extract (Opd.mk rfl) rfl) rfl ?_
      refine St.ev _ (Ev.extract (Opd.mk rfl) rfl) rfl ?_
      refine St.storeA (Opd.mk rfl) (Opd.mk rfl) sz24 (by first | simp only [List.length_cons, List.length_nil] | rfl) rfl ?_
      refine St.storeA (Opd.mk rfl) (Opd.mk rfl) sz26 (by first | simp only [List.length_cons, List.length_nil] | rfl) rfl ?_
      refine St.nil ?_
      refine St.then_normal ?_
      refine St.seq ?_
      refine St.seq ?_
      refine St.rg ?_
      refine St.ev _ (Ev.fldb0 (Opd.mk rfl) fo26_0) rfl ?_
      refine St.ev _ (Ev.ldb (Opd.mk rfl) Try.underlying3 trivial (by rfl)) rfl ?_
      refine St.ev _ (Ev.eql (Opd.mk rfl) (Opd.mk rfl)) rfl ?_
      refine St.ev _ (Ev.move (Opd.mk rfl)) rfl ?_
      refine St.gt _ rfl rfl (fun hg => Ev.fldb0 (Opd.mk rfl) fo26_0) rfl ?_
      refine St.gt _ rfl rfl (fun hg => Ev.ldb (Opd.gv rfl hg) Try.underlying3 trivial (by rfl)) rfl ?_
      refine St.gt _ rfl rfl (fun hg => Ev.eql (Opd.gv rfl hg) (Opd.mk rfl)) rfl ?_
      refine St.ev _ (Ev.and (Opd.mk rfl) (fun hp => Opd.gv rfl hp)) rfl ?_
      refine St.nil ?_
      refine St.then_normal ?_
      refine St.cond _ rfl (fun h82 => ?_) (fun h82 => ?_)
      · skip
        try simp only [Bool.and_true, Bool.true_and, decide_eq_true_eq, decide_eq_false_iff_not, Bool.and_eq_true, Bool.or_eq_true, Bool.and_eq_false_iff, Bool.or_eq_false_iff, Bool.not_eq_true', Bool.not_eq_false', beq_iff_eq, beq_eq_false_iff_ne, Int.not_lt, Int.not_le] at h82
        have hm := ord_mul hc h82.1 h82.2
        refine St.seq ?_
        refine St.rg ?_
        refine St.ev _ (Ev.ldbA (Opd.mk rfl) Try.underlying24 trivial (by exact sz24)) rfl ?_
        refine St.ev _ (Ev.ldbA (Opd.mk rfl) Try.underlying24 trivial (by exact sz24)) rfl ?_
        refine St.ev _ (Ev.call (Compare_spec (frDo 2 x z).1 (frDo 2 y z).1 (prOk_do 2 x z) (prOk_do 2 y z)) cb13 (Opds.cons (Opd.mk rfl) (Opds.cons (Opd.mk rfl) Opds.nil))) rfl ?_
        refine St.slot 86 (.tuple #[iv (if z.1 = 0 then 0 else if z.1 < 0 then -(frCompare x y).1 else (frCompare x y).1), fv (0, 0)]) rfl (by rw [hm]) ?_
        refine St.ev _ (Ev.move (Opd.mk rfl)) rfl ?_
        refine St.ev _ (Ev.extract (Opd.mk rfl) rfl) rfl ?_
        refine St.ev _ (Ev.extract (Opd.mk rfl) rfl) rfl ?_
        refine St.alloc zc26 rfl (fun b16 => ?_)
        refine St.ev _ (Ev.assign (Opd.mk rfl)) rfl ?_
        refine St.storeA (Opd.mk rfl) (Opd.mk rfl) sz26 (by first | simp only [List.length_cons, List.length_nil] | rfl) rfl ?_
        refine St.nil ?_
        refine St.then_normal ?_
        refine St.seq ?_
        refine St.rg ?_
        refine St.ev _ (Ev.move (Opd.mk rfl)) rfl ?_
        refine St.ev _ (Ev.assign (Opd.mk rfl)) rfl ?_
        refine St.nil ?_
        refine St.then_normal ?_
        refine St.seq ?_
        refine St.seq ?_
        refine St.rg ?_
        refine St.ev _ (Ev.fldb0 (Opd.mk rfl) fo24_0) rfl ?_
        refine St.ev _ (Ev.ldb (Opd.mk rfl) Try.underlying3 trivial (by rfl)) rfl ?_
        refine St.ev _ (Ev.eql (Opd.mk rfl) (Opd.mk rfl)) rfl ?_
        refine St.nil ?_
        refine St.then_normal ?_
        refine St.cond _ rfl (fun h92 => ?_) (fun h92 => ?_)
        · skip
          try simp only [Bool.and_true, Bool.true_and, decide_eq_true_eq, decide_eq_false_iff_not, Bool.and_eq_true, Bool.or_eq_true, Bool.and_eq_false_iff, Bool.or_eq_false_iff, Bool.not_eq_true', Bool.not_eq_false', beq_iff_eq, beq_eq_false_iff_ne, Int.not_lt, Int.not_le] at h92
          refine St.rg ?_
          refine St.ev _ (Ev.assign (Opd.mk rfl)) rfl ?_
          refine St.nil ?_
          refine St.then_normal ?_
          refine St.seq ?_
          refine St.rg ?_
          refine St.ev _ (Ev.fldb0 (Opd.mk rfl) fo26_0) rfl ?_
          refine St.ev _ (Ev.ldb (Opd.mk rfl) Try.underlying3 trivial (by rfl)) rfl ?_
          refine St.ev _ (Ev.neq (Opd.mk rfl) (Opd.mk rfl)) rfl ?_
          refine St.ev _ (Ev.move (Opd.mk rfl)) rfl ?_
          refine St.gf _ rfl rfl (fun hg => Ev.move (Opd.mk rfl)) rfl ?_
          refine St.gf _ rfl rfl (fun hg => Ev.move (Opd.mk rfl)) rfl ?_
          refine St.gf _ rfl rfl (fun hg => Ev.neq (Opd.gv rfl hg) (Opd.gv rfl hg)) rfl ?_
          refine St.ev _ (Ev.or (Opd.mk rfl) (fun hp => Opd.gv rfl hp)) rfl ?_
          refine St.nil ?_
          refine St.then_normal ?_
          refine St.condf _ rfl (by rw [if_pos h92]; simp) ?_
          refine St.skip ?_
          refine St.then_normal ?_
          refine St.seq ?_
          refine St.rg ?_
          refine St.ev _ (Ev.assign (Opd.mk rfl)) rfl ?_
          refine St.nil ?_
          refine St.then_normal ?_
          refine St.rett ?_
          refine St.rets [_] [] Try.results6 ⟨rfl, trivial⟩ ?_ (fun _ hw => hw.sub)
          rfl
        · skip
          try simp only [Bool.and_true, Bool.true_and, decide_eq_true_eq, decide_eq_false_iff_not, Bool.and_eq_true, Bool.or_eq_true, Bool.and_eq_false_iff, Bool.or_eq_false_iff, Bool.not_eq_true', Bool.not_eq_false', beq_iff_eq, beq_eq_false_iff_ne, Int.not_lt, Int.not_le] at h92
          refine St.seq ?_
          refine St.rg ?_
          refine St.ev _ (Ev.fldb0 (Opd.mk rfl) fo24_0) rfl ?_
          refine St.ev _ (Ev.ldb (Opd.mk rfl) Try.underlying3 trivial (by rfl)) rfl ?_
          refine St.ev _ (Ev.lss (Opd.mk rfl) (Opd.mk rfl)) rfl ?_
          refine St.nil ?_
          refine St.then_normal ?_
          refine St.cond _ rfl (fun h95 => ?_) (fun h95 => ?_)
          · skip
            try simp only [Bool.and_true, Bool.true_and, decide_eq_true_eq, decide_eq_false_iff_not, Bool.and_eq_true, Bool.or_eq_true, Bool.and_eq_false_iff, Bool.or_eq_false_iff, Bool.not_eq_true', Bool.not_eq_false', beq_iff_eq, beq_eq_false_iff_ne, Int.not_lt, Int.not_le] at h95
            refine St.rg ?_
            refine St.ev _ (Ev.move (Opd.mk rfl)) rfl ?_
            refine St.ev _ (Ev.neg (Opd.mk rfl) (by omega)) rfl ?_
            refine St.ev _ (Ev.assign (Opd.mk rfl)) rfl ?_
            refine St.nil ?_
            refine St.then_normal ?_
            refine St.seq ?_
            refine St.rg ?_
            refine St.ev _ (Ev.fldb0 (Opd.mk rfl) fo26_0) rfl ?_
            refine St.ev _ (Ev.ldb (Opd.mk rfl) Try.underlying3 trivial (by rfl)) rfl ?_
            refine St.ev _ (Ev.neq (Opd.mk rfl) (Opd.mk rfl)) rfl ?_
            refine St.ev _ (Ev.move (Opd.mk rfl)) rfl ?_
            refine St.gf _ rfl rfl (fun hg => Ev.move (Opd.mk rfl)) rfl ?_
            refine St.gf _ rfl rfl (fun hg => Ev.move (Opd.mk rfl)) rfl ?_
            refine St.gf _ rfl rfl (fun hg => Ev.neq (Opd.gv rfl hg) (Opd.gv rfl hg)) rfl ?_
            refine St.ev _ (Ev.or (Opd.mk rfl) (fun hp => Opd.gv rfl hp)) rfl ?_
            refine St.nil ?_
            refine St.then_normal ?_
            refine St.condf _ rfl (by rw [if_neg h92, if_pos h95]; simp) ?_
            refine St.skip ?_
            refine St.then_normal ?_
            refine St.seq ?_
            refine St.rg ?_
            refine St.ev _ (Ev.assign (Opd.mk rfl)) rfl ?_
            refine St.nil ?_
            refine St.then_normal ?_
            refine St.rett ?_
            refine St.rets [_] [] Try.results6 ⟨rfl, trivial⟩ ?_ (fun _ hw => hw.sub)
            rfl
          · skip
            try simp only [Bool.and_true, Bool.true_and, decide_eq_true_eq, decide_eq_false_iff_not, Bool.and_eq_true, Bool.or_eq_true, Bool.and_eq_false_iff, Bool.or_eq_false_iff, Bool.not_eq_true', Bool.not_eq_false', beq_iff_eq, beq_eq_false_iff_ne, Int.not_lt, Int.not_le] at h95
            refine St.skip ?_
            refine St.then_normal ?_
            refine St.seq ?_
            refine St.rg ?_
            refine St.ev _ (Ev.fldb0 (Opd.mk rfl) fo26_0) rfl ?_
            refine St.ev _ (Ev.ldb (Opd.mk rfl) Try.underlying3 trivial (by rfl)) rfl ?_
            refine St.ev _ (Ev.neq (Opd.mk rfl) (Opd.mk rfl)) rfl ?_
            refine St.ev _ (Ev.move (Opd.mk rfl)) rfl ?_
            refine St.gf _ rfl rfl (fun hg => Ev.move (Opd.mk rfl)) rfl ?_
            refine St.gf _ rfl rfl (fun hg => Ev.move (Opd.mk rfl)) rfl ?_
            refine St.gf _ rfl rfl (fun hg => Ev.neq (Opd.gv rfl hg) (Opd.gv rfl hg)) rfl ?_
            refine St.ev _ (Ev.or (Opd.mk rfl) (fun hp => Opd.gv rfl hp)) rfl ?_
            refine St.nil ?_
            refine St.then_normal ?_
            refine St.condf _ rfl (by rw [if_neg h92, if_neg (by omega)]; simp) ?_
            refine St.skip ?_
            refine St.then_normal ?_
            refine St.seq ?_
            refine St.rg ?_
            refine St.ev _ (Ev.assign (Opd.mk rfl)) rfl ?_
            refine St.nil ?_
            refine St.then_normal ?_
            refine St.rett ?_
            refine St.rets [_] [] Try.results6 ⟨rfl, trivial⟩ ?_ (fun _ hw => hw.sub)
            rfl
      · skip
        try simp only [Bool.and_true, Bool.true_and, decide_eq_true_eq, decide_eq_false_iff_not, Bool.and_eq_true, Bool.or_eq_true, Bool.and_eq_false_iff, Bool.or_eq_false_iff, Bool.not_eq_true', Bool.not_eq_false', beq_iff_eq, beq_eq_false_iff_ne, Int.not_lt, Int.not_le] at h82
        refine St.skip ?_
        refine St.then_normal ?_
        refine St.seq ?_
        refine St.rg ?_
        refine St.ev _ (Ev.assign (Opd.mk rfl)) rfl ?_
        refine St.nil ?_
        refine St.then_normal ?_
        refine St.rett ?_
        refine St.rets [_] [] Try.results6 ⟨rfl, trivial⟩ ?_ (fun _ hw => hw.sub)
        rfl
    · skip
      try simp only [Bool.and_true, Bool.true_and, decide_eq_true_eq, decide_eq_false_iff_not, Bool.and_eq_true, Bool.or_eq_true, Bool.and_eq_false_iff, Bool.or_eq_false_iff, Bool.not_eq_true', Bool.not_eq_false', beq_iff_eq, beq_eq_false_iff_ne, Int.not_lt, Int.not_le] at h48
      refine St.skip ?_
      refine St.then_normal ?_
      refine St.seq ?_
      refine St.rg ?_
      refine St.ev _ (Ev.ldbA (Opd.mk rfl) Try.underlying24 trivial (by exact sz24)) rfl ?_
      refine St.ev _ (Ev.ldbA (Opd.mk rfl) Try.underlying24 trivial (by exact sz24)) rfl ?_
      refine St.ev _ (Ev.call (Mul_spec x z hx hz) cb17 (Opds.cons (Opd.mk rfl) (Opds.cons (Opd.mk rfl) Opds.nil))) rfl ?_
      refine St.ev _ (Ev.move (Opd.mk rfl)) rfl ?_
      refine St.ev _ (Ev.extract (Opd.mk rfl) rfl) rfl ?_
      refine St.ev _ (Ev.extract (Opd.mk rfl) rfl) rfl ?_
      refine St.storeA (Opd.mk rfl) (Opd.mk rfl) sz24 (by first | simp only [List.length_cons, List.length_nil] | rfl) rfl ?_
      refine St.storeA (Opd.mk rfl) (Opd.mk rfl) sz26 (by first | simp only [List.length_cons, List.length_nil] | rfl) rfl ?_
      refine St.nil ?_
      refine St.then_normal ?_
      refine St.seq ?_
      refine St.rg ?_
      refine St.ev _ (Ev.ldbA (Opd.mk rfl) Try.underlying24 trivial (by exact sz24)) rfl ?_
      refine St.ev _ (Ev.ldbA (Opd.mk rfl) Try.underlying24 trivial (by exact sz24)) rfl ?_
      refine St.ev _ (Ev.call (Mul_spec y z hy hz) cb17 (Opds.cons (Opd.mk rfl) (Opds.cons (Opd.mk rfl) Opds.nil))) rfl ?_
      refine St.ev _ (Ev.move (Opd.mk rfl)) rfl ?_
      refine St.ev _ (Ev.extract (Opd.mk rfl) rfl) rfl ?_
      refine St.ev _ (Ev.extract (Opd.mk rfl) rfl) rfl ?_
      refine St.storeA (Opd.mk rfl) (Opd.mk rfl) sz24 (by first | simp only [List.length_cons, List.length_nil] | rfl) rfl ?_
      refine St.storeA (Opd.mk rfl) (Opd.mk rfl) sz26 (by first | simp only [List.length_cons, List.length_nil] | rfl) rfl ?_
      refine St.nil ?_
      refine St.then_normal ?_
      refine St.seq ?_
      refine St.seq ?_
      refine St.rg ?_
      refine St.ev _ (Ev.fldb0 (Opd.mk rfl) fo26_0) rfl ?_
      refine St.ev _ (Ev.ldb (Opd.mk rfl) Try.underlying3 trivial (by rfl)) rfl ?_
      refine St.ev _ (Ev.eql (Opd.mk rfl) (Opd.mk rfl)) rfl ?_
      refine St.ev _ (Ev.move (Opd.mk rfl)) rfl ?_
      refine St.gt _ rfl rfl (fun hg => Ev.fldb0 (Opd.mk rfl) fo26_0) rfl ?_
      refine St.gt _ rfl rfl (fun hg => Ev.ldb (Opd.gv rfl hg) Try.underlying3 trivial (by rfl)) rfl ?_
      refine St.gt _ rfl rfl (fun hg => Ev.eql (Opd.gv rfl hg) (Opd.mk rfl)) rfl ?_
      refine St.ev _ (Ev.and (Opd.mk rfl) (fun hp => Opd.gv rfl hp)) rfl ?_
      refine St.nil ?_
      refine St.then_normal ?_
      refine St.cond _ rfl (fun h82 => ?_) (fun h82 => ?_)
      · skip
        try simp only [Bool.and_true, Bool.true_and, decide_eq_true_eq, decide_eq_false_iff_not, Bool.and_eq_true, Bool.or_eq_true, Bool.and_eq_false_iff, Bool.or_eq_false_iff, Bool.not_eq_true', Bool.not_eq_false', beq_iff_eq, beq_eq_false_iff_ne, Int.not_lt, Int.not_le] at h82
        have hm := ord_mul hc h82.1 h82.2
        refine St.seq ?_
        refine St.rg ?_
        refine St.ev _ (Ev.ldbA (Opd.mk rfl) Try.underlying24 trivial (by exact sz24)) rfl ?_
        refine St.ev _ (Ev.ldbA (Opd.mk rfl) Try.underlying24 trivial (by exact sz24)) rfl ?_
        refine St.ev _ (Ev.call (Compare_spec (frDo 2 x z).1 (frDo 2 y z).1 (prOk_do 2 x z) (prOk_do 2 y z)) cb13 (Opds.cons (Opd.mk rfl) (Opds.cons (Opd.mk rfl) Opds.nil))) rfl ?_
        refine St.slot 86 (.tuple #[iv (if z.1 = 0 then 0 else if z.1 < 0 then -(frCompare x y).1 else (frCompare x y).1), fv (0, 0)]) rfl (by rw [hm]) ?_
        refine St.ev _ (Ev.move (Opd.mk rfl)) rfl ?_
        refine St.ev _ (Ev.extract (Opd.mk rfl) rfl) rfl ?_
        refine St.ev _ (Ev.extract (Opd.mk rfl) rfl) rfl ?_
        refine St.alloc zc26 rfl (fun b16 => ?_)
        refine St.ev _ (Ev.assign (Opd.mk rfl)) rfl ?_
        refine St.storeA (Opd.mk rfl) (Opd.mk rfl) sz26 (by first | simp only [List.length_cons, List.length_nil] | rfl) rfl ?_
        refine St.nil ?_
        refine St.then_normal ?_
        refine St.seq ?_
        refine St.rg ?_
        refine St.ev _ (Ev.move (Opd.mk rfl)) rfl ?_
        refine St.ev _ (Ev.assign (Opd.mk rfl)) rfl ?_
        refine St.nil ?_
        refine St.then_normal ?_
        refine St.seq ?_
        refine St.seq ?_
        refine St.rg ?_
        refine St.ev _ (Ev.fldb0 (Opd.mk rfl) fo24_0) rfl ?_
        refine St.ev _ (Ev.ldb (Opd.mk rfl) Try.underlying3 trivial (by rfl)) rfl ?_
        refine St.ev _ (Ev.eql (Opd.mk rfl) (Opd.mk rfl)) rfl ?_
        refine St.nil ?_
        refine St.then_normal ?_
        refine St.cond _ rfl (fun h92 => ?_) (fun h92 => ?_)
        · skip
          try simp only [Bool.and_true, Bool.true_and, decide_eq_true_eq, decide_eq_false_iff_not, Bool.and_eq_true, Bool.or_eq_true, Bool.and_eq_false_iff, Bool.or_eq_false_iff, Bool.not_eq_true', Bool.not_eq_false', beq_iff_eq, beq_eq_false_iff_ne, Int.not_lt, Int.not_le] at h92
          refine St.rg ?_
          refine St.ev _ (Ev.assign (Opd.mk rfl)) rfl ?_
          refine St.nil ?_
          refine St.then_normal ?_
          refine St.seq ?_
          refine St.rg ?_
          refine St.ev _ (Ev.fldb0 (Opd.mk rfl) fo26_0) rfl ?_
          refine St.ev _ (Ev.ldb (Opd.mk rfl) Try.underlying3 trivial (by rfl)) rfl ?_
          refine St.ev _ (Ev.neq (Opd.mk rfl) (Opd.mk rfl)) rfl ?_
          refine St.ev _ (Ev.move (Opd.mk rfl)) rfl ?_
          refine St.gf _ rfl rfl (fun hg => Ev.move (Opd.mk rfl)) rfl ?_
          refine St.gf _ rfl rfl (fun hg => Ev.move (Opd.mk rfl)) rfl ?_
          refine St.gf _ rfl rfl (fun hg => Ev.neq (Opd.gv rfl hg) (Opd.gv rfl hg)) rfl ?_
          refine St.ev _ (Ev.or (Opd.mk rfl) (fun hp => Opd.gv rfl hp)) rfl ?_
          refine St.nil ?_
          refine St.then_normal ?_
          refine St.condf _ rfl (by rw [if_pos h92]; simp) ?_
          refine St.skip ?_
          refine St.then_normal ?_
          refine St.seq ?_
          refine St.rg ?_
          refine St.ev _ (Ev.assign (Opd.mk rfl)) rfl ?_
          refine St.nil ?_
          refine St.then_normal ?_
          refine St.rett ?_
          refine St.rets [_] [] Try.results6 ⟨rfl, trivial⟩ ?_ (fun _ hw => hw.sub)
          rfl
        · skip
          try simp only [Bool.and_true, Bool.true_and, decide_eq_true_eq, decide_eq_false_iff_not, Bool.and_eq_true, Bool.or_eq_true, Bool.and_eq_false_iff, Bool.or_eq_false_iff, Bool.not_eq_true', Bool.not_eq_false', beq_iff_eq, beq_eq_false_iff_ne, Int.not_lt, Int.not_le] at h92
          refine St.seq ?_
          refine St.rg ?_
          refine St.ev _ (Ev.fldb0 (Opd.mk rfl) fo24_0) rfl ?_
          refine St.ev _ (Ev.ldb (Opd.mk rfl) Try.underlying3 trivial (by rfl)) rfl ?_
          refine St.ev _ (Ev.lss (Opd.mk rfl) (Opd.mk rfl)) rfl ?_
          refine St.nil ?_
          refine St.then_normal ?_
          refine St.cond _ rfl (fun h95 => ?_) (fun h95 => ?_)
          · skip
            try simp only [Bool.and_true, Bool.true_and, decide_eq_true_eq, decide_eq_false_iff_not, Bool.and_eq_true, Bool.or_eq_true, Bool.and_eq_false_iff, Bool.or_eq_false_iff, Bool.not_eq_true', Bool.not_eq_false', beq_iff_eq, beq_eq_false_iff_ne, Int.not_lt, Int.not_le] at h95
            refine St.rg ?_
            refine St.ev _ (Ev.move (Opd.mk rfl)) rfl ?_
            refine St.ev _ (Ev.neg (Opd.mk rfl) (by omega)) rfl ?_
            refine St.ev _ (Ev.assign (Opd.mk rfl)) rfl ?_
            refine St.nil ?_
            refine St.then_normal ?_
            refine St.seq ?_
            refine St.rg ?_
            refine St.ev _ (Ev.fldb0 (Opd.mk rfl) fo26_0) rfl ?_
            refine St.ev _ (Ev.ldb (Opd.mk rfl) Try.underlying3 trivial (by rfl)) rfl ?_
            refine St.ev _ (Ev.neq (Opd.mk rfl) (Opd.mk rfl)) rfl ?_
            refine St.ev _ (Ev.move (Opd.mk rfl)) rfl ?_
            refine St.gf _ rfl rfl (fun hg => Ev.move (Opd.mk rfl)) rfl ?_
            refine St.gf _ rfl rfl (fun hg => Ev.move (Opd.mk rfl)) rfl ?_
            refine St.gf _ rfl rfl (fun hg => Ev.neq (Opd.gv rfl hg) (Opd.gv rfl hg)) rfl ?_
            refine St.ev _ (Ev.or (Opd.mk rfl) (fun hp => Opd.gv rfl hp)) rfl ?_
            refine St.nil ?_
            refine St.then_normal ?_
            refine St.condf _ rfl (by rw [if_neg h92, if_pos h95]; simp) ?_
            refine St.skip ?_
            refine St.then_normal ?_
            refine St.seq ?_
            refine St.rg ?_
            refine St.ev _ (Ev.assign (Opd.mk rfl)) rfl ?_
            refine St.nil ?_
            refine St.then_normal ?_
            refine St.rett ?_
            refine St.rets [_] [] Try.results6 ⟨rfl, trivial⟩ ?_ (fun _ hw => hw.sub)
            rfl
          · skip
            try simp only [Bool.and_true, Bool.true_and, decide_eq_true_eq, decide_eq_false_iff_not, Bool.and_eq_true, Bool.or_eq_true, Bool.and_eq_false_iff, Bool.or_eq_false_iff, Bool.not_eq_true', Bool.not_eq_false', beq_iff_eq, beq_eq_false_iff_ne, Int.not_lt, Int.not_le] at h95
            refine St.skip ?_
            refine St.then_normal ?_
            refine St.seq ?_
            refine St.rg ?_
            refine St.ev _ (Ev.fldb0 (Opd.mk rfl) fo26_0) rfl ?_
            refine St.ev _ (Ev.ldb (Opd.mk rfl) Try.underlying3 trivial (by rfl)) rfl ?_
            refine St.ev _ (Ev.neq (Opd.mk rfl) (Opd.mk rfl)) rfl ?_
            refine St.ev _ (Ev.move (Opd.mk rfl)) rfl ?_
            refine St.gf _ rfl rfl (fun hg => Ev.move (Opd.mk rfl)) rfl ?_
            refine St.gf _ rfl rfl (fun hg => Ev.move (Opd.mk rfl)) rfl ?_
            refine St.gf _ rfl rfl (fun hg => Ev.neq (Opd.gv rfl hg) (Opd.gv rfl hg)) rfl ?_
            refine St.ev _ (Ev.or (Opd.mk rfl) (fun hp => Opd.gv rfl hp)) rfl ?_
            refine St.nil ?_
            refine St.then_normal ?_
            refine St.condf _ rfl (by rw [if_neg h92, if_neg (by omega)]; simp) ?_
            refine St.skip ?_
            refine St.then_normal ?_
            refine St.seq ?_
            refine St.rg ?_
            refine St.ev _ (Ev.assign (Opd.mk rfl)) rfl ?_
            refine St.nil ?_
            refine St.then_normal ?_
            refine St.rett ?_
            refine St.rets [_] [] Try.results6 ⟨rfl, trivial⟩ ?_ (fun _ hw => hw.sub)
            rfl
      · skip
        try simp only [Bool.and_true, Bool.true_and, decide_eq_true_eq, decide_eq_false_iff_not, Bool.and_eq_true, Bool.or_eq_true, Bool.and_eq_false_iff, Bool.or_eq_false_iff, Bool.not_eq_true', Bool.not_eq_false', beq_iff_eq, beq_eq_false_iff_ne, Int.not_lt, Int.not_le] at h82
        refine St.skip ?_
        refine St.then_normal ?_
        refine St.seq ?_
        refine St.rg ?_
        refine St.ev _ (Ev.assign (Opd.mk rfl)) rfl ?_
        refine St.nil ?_
        refine St.then_normal ?_
        refine St.rett ?_
        refine St.rets [_] [] Try.results6 ⟨rfl, trivial⟩ ?_ (fun _ hw => hw.sub)
        rfl

theorem law7_spec (v0 : Value) (l : List Pr) : FnV Try.prog 7 #[v0] [sl fracR v0 l] (.bool true) := by
  refine FnV.body1 (args := [v0]) 89 Try.func7 rfl Try.ntmps7 rfl (fun c => ?_)
  refine St.seq ?_
  refine St.wf v0 (fun hwf hlen => ?_)
  refine St.rg ?_
  refine St.ev _ (Ev.assign (Opd.mk rfl)) rfl ?_
  refine St.nil ?_
  refine St.then_normal ?_
  refine St.seq ?_
  refine St.seq ?_
  refine St.rg ?_
  refine St.ev _ (Ev.call (fracReady_spec) cb10 (Opds.nil)) rfl ?_
  refine St.ev _ (Ev.not (Opd.mk rfl)) rfl ?_
  refine St.nil ?_
  refine St.then_normal ?_
  refine St.condf _ rfl rfl ?_
  refine St.skip ?_
  refine St.then_normal ?_
  refine St.seq ?_
  refine St.rg ?_
  refine St.ev _ (Ev.move (Opd.mk rfl)) rfl ?_
  refine St.ev _ (Ev.call (Sum_spec v0 l) cb18 (Opds.cons (Opd.mk rfl) Opds.nil)) rfl ?_
  refine St.ev _ (Ev.move (Opd.mk rfl)) rfl ?_
  refine St.ev _ (Ev.extract (Opd.mk rfl) rfl) rfl ?_
  refine St.ev _ (Ev.extract (Opd.mk rfl) rfl) rfl ?_
  refine St.alloc zc24 rfl (fun b3 => ?_)
  refine St.alloc zc26 rfl (fun b4 => ?_)
  refine St.storeA (Opd.mk rfl) (Opd.mk rfl) sz24 (by first | simp only [List.length_cons, List.length_nil] | rfl) rfl ?_
  refine St.storeA (Opd.mk rfl) (Opd.mk rfl) sz26 (by first | simp only [List.length_cons, List.length_nil] | rfl) rfl ?_
  refine St.nil ?_
  refine St.then_normal ?_
  refine St.seq ?_
  refine St.seq ?_
  refine St.rg ?_
  refine St.ev _ (Ev.move (Opd.mk rfl)) rfl ?_
  refine St.ev _ (Ev.lensl (Opd.mk rfl) Try.underlying37) rfl ?_
  refine St.ev _ (Ev.gtr (Opd.mk rfl) (Opd.mk rfl)) rfl ?_
  refine St.nil ?_
  refine St.then_normal ?_
  refine St.cond _ rfl (fun h20 => ?_) (fun h20 => ?_)
  · skip
    try simp only [Bool.and_true, Bool.true_and, decide_eq_true_eq, decide_eq_false_iff_not, Bool.and_eq_true, Bool.or_eq_true, Bool.and_eq_false_iff, Bool.or_eq_false_iff, Bool.not_eq_true', Bool.not_eq_false', beq_iff_eq, beq_eq_false_iff_ne, Int.not_lt, Int.not_le] at h20
    refine St.seq ?_
    refine St.rg ?_
    refine St.ev _ (Ev.ldbA (Opd.mk rfl) Try.underlying26 trivial (by exact sz26)) rfl ?_
    refine St.ev _ (Ev.build (ps := [(0, (Operand.const (Value.int IntKind.i64 2))), (1, (Operand.const (Value.int IntKind.i64 (-1))))]) (Opds.cons (Opd.mk rfl) (Opds.cons (Opd.mk rfl) Opds.nil)) (fun w => bld26_0_1 rfl rfl w)) rfl ?_
    refine St.ev _ (Ev.structeql (Opd.mk rfl) (Opd.mk rfl) Try.eqGuardType26 (fun w => eqf26 _ _ _ _ w)) rfl ?_
    refine St.ev _ (Ev.move (Opd.mk rfl)) rfl ?_
    refine St.gt _ rfl rfl (fun hg => Ev.ldbA (Opd.mk rfl) Try.underlying24 trivial (by exact sz24)) rfl ?_
    refine St.gt _ rfl rfl (fun hg => Ev.build (ps := []) (Opds.nil) (fun w => bld24_  w)) rfl ?_
    refine St.gt _ rfl rfl (fun hg => Ev.structeql (Opd.gv rfl hg) (Opd.gv rfl hg) Try.eqGuardType24 (fun w => eqf24 _ _ _ _ w)) rfl ?_
    refine St.ev _ (Ev.and (Opd.mk rfl) (fun hp => Opd.gv rfl hp)) rfl ?_
    refine St.ev _ (Ev.assign (Opd.mk rfl)) rfl ?_
    refine St.nil ?_
    refine St.then_normal ?_
    refine St.rett ?_
    refine St.then_ret ?_
    refine St.rets [_] [] Try.results7 ⟨rfl, trivial⟩ ?_ (fun _ hw => hw.sub)
    exact be (by rw [frSum_big (by omega)]; decide)
  · skip
    try simp only [Bool.and_true, Bool.true_and, decide_eq_true_eq, decide_eq_false_iff_not, Bool.and_eq_true, Bool.or_eq_true, Bool.and_eq_false_iff, Bool.or_eq_false_iff, Bool.not_eq_true', Bool.not_eq_false', beq_iff_eq, beq_eq_false_iff_ne, Int.not_lt, Int.not_le] at h20
    refine St.skip ?_
    refine St.then_normal ?_
    refine St.seq ?_
    refine St.seq ?_
    refine St.rg ?_
    refine St.ev _ (Ev.assign (Opd.mk rfl)) rfl ?_
    refine St.nil ?_
    refine St.then_normal ?_
    refine St.block ?_
    refine St.loopH (ι := Nat) (fun k T => (5, iv k) :: T) (fun k => [blk b3 (.cells #[iv (frSum l).1.1, iv (frSum l).1.2] 24 (0, 0)), blk b4 (.cells #[iv (frSum l).2.1, iv (frSum l).2.2] 26 (0, 0)), dat (sl fracR v0 l)]) (fun k => k ≤ l.length ∧ frChk 0 l = frChk k (l.drop k)) (fun k => l.length - k) 0 (Keep.cons 0 rfl (Keep.cons 3 rfl (Keep.cons 4 rfl Keep.nil))) ⟨Nat.zero_le _, rfl⟩ (by repeat (first | exact Sub.nil | refine Sub.cons (by first | rfl | exact congrArg (fun z => some (iv z)) (by omega) | exact congrArg (fun z => some (Value.bool z)) (by first | assumption | exact Eq.symm (by assumption))) ?_)) (fun _ hw => hw.sub) ?_
    intro k hphi
    obtain ⟨hk, hc⟩ := hphi
    refine St.seq ?_
    refine St.seq ?_
    refine St.rg ?_
    refine St.ev _ (Ev.move (Opd.mk rfl)) rfl ?_
    refine St.ev _ (Ev.move (Opd.mk rfl)) rfl ?_
    refine St.ev _ (Ev.lensl (Opd.mk rfl) Try.underlying37) rfl ?_
    refine St.ev _ (Ev.lss (Opd.mk rfl) (Opd.mk rfl)) rfl ?_
    refine St.nil ?_
    refine St.then_normal ?_
    refine St.cond _ rfl (fun h32 => ?_) (fun h32 => ?_)
    · skip
      try simp only [Bool.and_true, Bool.true_and, decide_eq_true_eq, decide_eq_false_iff_not, Bool.and_eq_true, Bool.or_eq_true, Bool.and_eq_false_iff, Bool.or_eq_false_iff, Bool.not_eq_true', Bool.not_eq_false', beq_iff_eq, beq_eq_false_iff_ne, Int.not_lt, Int.not_le] at h32
      obtain ⟨p, hp⟩ := some_of_lt (show k < l.length by omega)
      have hw := hwf p (List.mem_of_getElem? hp)
      have hw' : prOk p := hw
      refine St.skip ?_
      refine St.then_normal ?_
      refine St.seq ?_
      refine St.block ?_
      refine St.seq ?_
      refine St.rg ?_
      refine St.ev _ (Ev.move (Opd.mk rfl)) rfl ?_
      refine St.ev _ (Ev.move (Opd.mk rfl)) rfl ?_
      refine St.ev _ (Ev.idxaddr (k := k) (Opd.mk rfl) (Opd.mk rfl) Try.underlying37 sz24 (by omega) (by omega)) rfl ?_
      refine St.ev _ (Ev.ldA (Opd.mk rfl) (by first | assumption | exact some_getD default (by omega)) Try.underlying24 trivial sz24 Cel.eq) rfl ?_
      refine St.ev _ (Ev.move (Opd.mk rfl)) rfl ?_
      refine St.ev _ (Ev.call (FracFault_spec p.1 p.2 k hw'.1 hw'.2) cb19 (Opds.cons (Opd.mk rfl) (Opds.cons (Opd.mk rfl) Opds.nil))) rfl ?_
      refine St.alloc zc26 rfl (fun b6 => ?_)
      refine St.storeA (Opd.mk rfl) (Opd.mk rfl) sz26 (by first | simp only [List.length_cons, List.length_nil] | rfl) rfl ?_
      refine St.nil ?_
      refine St.then_normal ?_
      refine St.seq ?_
      refine St.rg ?_
      refine St.ev _ (Ev.fldb0 (Opd.mk rfl) fo26_0) rfl ?_
      refine St.ev _ (Ev.ldb (Opd.mk rfl) Try.underlying3 trivial (by rfl)) rfl ?_
      refine St.ev _ (Ev.neq (Opd.mk rfl) (Opd.mk rfl)) rfl ?_
      refine St.nil ?_
      refine St.then_normal ?_
      refine St.cond _ rfl (fun h43 => ?_) (fun h43 => ?_)
      · skip
        try simp only [Bool.and_true, Bool.true_and, decide_eq_true_eq, decide_eq_false_iff_not, Bool.and_eq_true, Bool.or_eq_true, Bool.and_eq_false_iff, Bool.or_eq_false_iff, Bool.not_eq_true', Bool.not_eq_false', beq_iff_eq, beq_eq_false_iff_ne, Int.not_lt, Int.not_le] at h43
        refine St.seq ?_
        refine St.rg ?_
        refine St.ev _ (Ev.ldbA (Opd.mk rfl) Try.underlying26 trivial (by exact sz26)) rfl ?_
        refine St.ev _ (Ev.ldbA (Opd.mk rfl) Try.underlying26 trivial (by exact sz26)) rfl ?_
        refine St.ev _ (Ev.structeql (Opd.mk rfl) (Opd.mk rfl) Try.eqGuardType26 (fun w => eqf26 _ _ _ _ w)) rfl ?_
        refine St.ev _ (Ev.move (Opd.mk rfl)) rfl ?_
        refine St.gt _ rfl rfl (fun hg => Ev.ldbA (Opd.mk rfl) Try.underlying24 trivial (by exact sz24)) rfl ?_
        refine St.gt _ rfl rfl (fun hg => Ev.build (ps := []) (Opds.nil) (fun w => bld24_  w)) rfl ?_
        refine St.gt _ rfl rfl (fun hg => Ev.structeql (Opd.gv rfl hg) (Opd.gv rfl hg) Try.eqGuardType24 (fun w => eqf24 _ _ _ _ w)) rfl ?_
        refine St.ev _ (Ev.and (Opd.mk rfl) (fun hp => Opd.gv rfl hp)) rfl ?_
        refine St.ev _ (Ev.assign (Opd.mk rfl)) rfl ?_
        refine St.nil ?_
        refine St.then_normal ?_
        refine St.rett ?_
        refine St.in_ret ?_
        refine St.then_ret ?_
        refine St.then_ret ?_
        refine St.in_ret ?_
        refine St.then_ret ?_
        refine St.rets [_] [] Try.results7 ⟨rfl, trivial⟩ ?_ (fun _ hw => hw.sub)
        exact be (by rw [frSum_bad (by omega) (by rw [hc, frChk_step hp, if_neg h43]) h43]; simp)
      · skip
        try simp only [Bool.and_true, Bool.true_and, decide_eq_true_eq, decide_eq_false_iff_not, Bool.and_eq_true, Bool.or_eq_true, Bool.and_eq_false_iff, Bool.or_eq_false_iff, Bool.not_eq_true', Bool.not_eq_false', beq_iff_eq, beq_eq_false_iff_ne, Int.not_lt, Int.not_le] at h43
        refine St.skip ?_
        refine St.in_normal ?_
        refine St.then_normal ?_
        refine St.rg ?_
        refine St.ev _ (Ev.move (Opd.mk rfl)) rfl ?_
        refine St.ev _ (Ev.add (Opd.mk rfl) (Opd.mk rfl) (by omega)) rfl ?_
        refine St.ev _ (Ev.assign (Opd.mk rfl)) rfl ?_
        refine St.nil ?_
        refine St.then_normal ?_
        refine St.againH (k + 1) ⟨by omega, by rw [hc, frChk_step hp, if_pos h43]⟩ (by first | omega | (dsimp only; omega)) (by repeat (first | exact Sub.nil | refine Sub.cons (by first | rfl | exact congrArg (fun z => some (iv z)) (by omega) | exact congrArg (fun z => some (Value.bool z)) (by first | assumption | exact Eq.symm (by assumption))) ?_)) (fun _ hw => hw.sub)
    · skip
      try simp only [Bool.and_true, Bool.true_and, decide_eq_true_eq, decide_eq_false_iff_not, Bool.and_eq_true, Bool.or_eq_true, Bool.and_eq_false_iff, Bool.or_eq_false_iff, Bool.not_eq_true', Bool.not_eq_false', beq_iff_eq, beq_eq_false_iff_ne, Int.not_lt, Int.not_le] at h32
      refine St.exit ?_
      refine St.then_exit ?_
      refine St.then_exit ?_
      refine St.in_hit ?_
      refine St.then_normal ?_
      refine St.seq ?_
      refine St.rg ?_
      refine St.ev _ (Ev.build (ps := [(1, (Operand.const (Value.int IntKind.i64 1)))]) (Opds.cons (Opd.mk rfl) Opds.nil) (fun w => bld24_1 rfl w)) rfl ?_
      refine St.alloc zc24 rfl (fun b7 => ?_)
      refine St.storeA (Opd.mk rfl) (Opd.mk rfl) sz24 (by first | simp only [List.length_cons, List.length_nil] | rfl) rfl ?_
      refine St.nil ?_
      refine St.then_normal ?_
      refine St.seq ?_
      refine St.seq ?_
      refine St.rg ?_
      refine St.ev _ (Ev.assign (Opd.mk rfl)) rfl ?_
      refine St.nil ?_
      refine St.then_normal ?_
      refine St.block ?_
      have hall := frChk_all (l := l) (k := 0) (by rw [hc, frChk_end (by omega)])
      have hfs := frSum_fold (l := l) (by omega) (by rw [hc, frChk_end (by omega)])
      refine St.loopH (ι := Nat × Pr) (fun x T => (8, iv x.1) :: T) (fun x => [blk b3 (.cells #[iv (frSum l).1.1, iv (frSum l).1.2] 24 (0, 0)), blk b4 (.cells #[iv (frSum l).2.1, iv (frSum l).2.2] 26 (0, 0)), blk b7 (.cells #[iv x.2.1, iv x.2.2] 24 (0, 0)), dat (sl fracR v0 l)]) (fun x => x.1 ≤ l.length ∧ Fr1 x.2 ∧ frFold 0 (0, 1) l = frFold x.1 x.2 (l.drop x.1)) (fun x => l.length - x.1) (0, (0, 1)) (Keep.cons 0 rfl (Keep.cons 3 rfl (Keep.cons 4 rfl (Keep.cons 7 rfl Keep.nil)))) ⟨Nat.zero_le _, one_ok, rfl⟩ (by repeat (first | exact Sub.nil | refine Sub.cons (by first | rfl | exact congrArg (fun z => some (iv z)) (by omega) | exact congrArg (fun z => some (Value.bool z)) (by first | assumption | exact Eq.symm (by assumption))) ?_)) (fun _ hw => hw.sub) ?_
      intro x hphi
      obtain ⟨hk2, hs, hf⟩ := hphi
      refine St.seq ?_
      refine St.seq ?_
      refine St.rg ?_
      refine St.ev _ (Ev.move (Opd.mk rfl)) rfl ?_
      refine St.ev _ (Ev.move (Opd.mk rfl)) rfl ?_
      refine St.ev _ (Ev.lensl (Opd.mk rfl) Try.underlying37) rfl ?_
      refine St.ev _ (Ev.lss (Opd.mk rfl) (Opd.mk rfl)) rfl ?_
      refine St.nil ?_
      refine St.then_normal ?_
      refine St.cond _ rfl (fun h56 => ?_) (fun h56 => ?_)
      · skip
        try simp only [Bool.and_true, Bool.true_and, decide_eq_true_eq, decide_eq_false_iff_not, Bool.and_eq_true, Bool.or_eq_true, Bool.and_eq_false_iff, Bool.or_eq_false_iff, Bool.not_eq_true', Bool.not_eq_false', beq_iff_eq, beq_eq_false_iff_ne, Int.not_lt, Int.not_le] at h56
        obtain ⟨p, hp⟩ := some_of_lt (show x.1 < l.length by omega)
        have hpv := hall p (List.mem_of_getElem? hp)
        refine St.skip ?_
        refine St.then_normal ?_
        refine St.seq ?_
        refine St.block ?_
        refine St.seq ?_
        refine St.par [] mixed ?_
        refine SW.defer 0 (by repeat (first | refine NP.then ?_ | refine NP.inBlock ?_ | exact NP.body)) (by kernel_rfl) rfl (fun R => Ev.ldbA (Opd.mk rfl) Try.underlying24 trivial (by exact sz24)) (by kernel_rfl) rfl ?_
        refine SW.defer 1 (by repeat (first | refine NP.then ?_ | refine NP.inBlock ?_ | exact NP.body)) (by kernel_rfl) rfl (fun R => Ev.move (Opd.mk rfl)) (by kernel_rfl) rfl ?_
        refine SW.defer 2 (by repeat (first | refine NP.then ?_ | refine NP.inBlock ?_ | exact NP.body)) (by kernel_rfl) rfl (fun R => Ev.move (Opd.mk rfl)) (by kernel_rfl) rfl ?_
        refine SW.defer 3 (by repeat (first | refine NP.then ?_ | refine NP.inBlock ?_ | exact NP.body)) (by kernel_rfl) rfl (fun R => Ev.idxaddr (k := x.1) (Opd.mk rfl) (Opd.mk rfl) Try.underlying37 sz24 (by omega) (by omega)) (by kernel_rfl) rfl ?_
        refine SW.defer 4 (by repeat (first | refine NP.then ?_ | refine NP.inBlock ?_ | exact NP.body)) (by kernel_rfl) rfl (fun R => Ev.ldA (Opd.mk rfl) (by first | assumption | exact some_getD default (by omega)) Try.underlying24 trivial sz24 Cel.eq) (by kernel_rfl) rfl ?_
        refine SW.defer 5 (by repeat (first | refine NP.then ?_ | refine NP.inBlock ?_ | exact NP.body)) (by kernel_rfl) rfl (fun R => Ev.call (FracSum_spec x.2 p hs hpv) cb20 (Opds.cons (Opd.mk rfl) (Opds.cons (Opd.mk rfl) Opds.nil))) (by kernel_rfl) rfl ?_
        refine SW.defer 6 (by repeat (first | refine NP.then ?_ | refine NP.inBlock ?_ | exact NP.body)) (by kernel_rfl) rfl (fun R => Ev.move (Opd.mk rfl)) (by kernel_rfl) rfl ?_
        refine SW.defer 7 (by repeat (first | refine NP.then ?_ | refine NP.inBlock ?_ | exact NP.body)) (by kernel_rfl) rfl (fun R => Ev.extract (Opd.mk rfl) rfl) (by kernel_rfl) rfl ?_
        refine SW.defer 8 (by repeat (first | refine NP.then ?_ | refine NP.inBlock ?_ | exact NP.body)) (by kernel_rfl) rfl (fun R => Ev.extract (Opd.mk rfl) rfl) (by kernel_rfl) rfl ?_
        refine SW.alloc2 9 10 (by kernel_rfl) rfl rfl (by kernel_rfl) (by kernel_rfl) zc24 zc26 rfl rfl rfl (fun b9 b10 => ?_)
        refine SW.turn1 (i := 11) (by kernel_rfl) rfl ?_
        refine St.storeA (Opd.mk rfl) (Opd.mk rfl) sz24 (by first | simp only [List.length_cons, List.length_nil] | rfl) rfl ?_
        refine St.nil ?_
        refine St.then_normal ?_
        refine SW.go ?_
        refine SW.turn1 (i := 12) (by kernel_rfl) rfl ?_
        refine St.storeA (Opd.mk rfl) (Opd.mk rfl) sz26 (by first | simp only [List.length_cons, List.length_nil] | rfl) rfl ?_
        refine St.nil ?_
        refine St.then_normal ?_
        refine SW.go ?_
        refine SW.done (by kernel_rfl) ?_
        refine St.then_normal ?_
        refine St.seq ?_
        refine St.seq ?_
        refine St.rg ?_
        refine St.ev _ (Ev.fldb0 (Opd.mk rfl) fo26_0) rfl ?_
        refine St.ev _ (Ev.ldb (Opd.mk rfl) Try.underlying3 trivial (by rfl)) rfl ?_
        refine St.ev _ (Ev.neq (Opd.mk rfl) (Opd.mk rfl)) rfl ?_
        refine St.nil ?_
        refine St.then_normal ?_
        refine St.cond _ rfl (fun h70 => ?_) (fun h70 => ?_)
        · skip
          try simp only [Bool.and_true, Bool.true_and, decide_eq_true_eq, decide_eq_false_iff_not, Bool.and_eq_true, Bool.or_eq_true, Bool.and_eq_false_iff, Bool.or_eq_false_iff, Bool.not_eq_true', Bool.not_eq_false', beq_iff_eq, beq_eq_false_iff_ne, Int.not_lt, Int.not_le] at h70
          have h18 : (frAdd x.2 p).2.1 = 18 := by rcases frAdd_ok hs hpv with h | h; rw [h.2.1] at h70; simp at h70; rw [h]
          refine St.seq ?_
          refine St.rg ?_
          refine St.ev _ (Ev.ldbA (Opd.mk rfl) Try.underlying26 trivial (by exact sz26)) rfl ?_
          refine St.ev _ (Ev.move (Opd.mk rfl)) rfl ?_
          refine St.ev _ (Ev.build (ps := [(0, (Operand.const (Value.int IntKind.i64 18))), (1, (Operand.tmp 72))]) (Opds.cons (Opd.mk rfl) (Opds.cons (Opd.mk rfl) Opds.nil)) (fun w => bld26_0_1 rfl rfl w)) rfl ?_
          refine St.ev _ (Ev.structeql (Opd.mk rfl) (Opd.mk rfl) Try.eqGuardType26 (fun w => eqf26 _ _ _ _ w)) rfl ?_
          refine St.ev _ (Ev.move (Opd.mk rfl)) rfl ?_
          refine St.gt _ rfl rfl (fun hg => Ev.ldbA (Opd.mk rfl) Try.underlying24 trivial (by exact sz24)) rfl ?_
          refine St.gt _ rfl rfl (fun hg => Ev.build (ps := []) (Opds.nil) (fun w => bld24_  w)) rfl ?_
          refine St.gt _ rfl rfl (fun hg => Ev.structeql (Opd.gv rfl hg) (Opd.gv rfl hg) Try.eqGuardType24 (fun w => eqf24 _ _ _ _ w)) rfl ?_
          refine St.ev _ (Ev.and (Opd.mk rfl) (fun hp => Opd.gv rfl hp)) rfl ?_
          refine St.ev _ (Ev.assign (Opd.mk rfl)) rfl ?_
          refine St.nil ?_
          refine St.then_normal ?_
          refine St.rett ?_
          refine St.then_ret ?_
          refine St.in_ret ?_
          refine St.then_ret ?_
          refine St.then_ret ?_
          refine St.in_ret ?_
          refine St.then_ret ?_
          refine St.rets [_] [] Try.results7 ⟨rfl, trivial⟩ ?_ (fun _ hw => hw.sub)
          exact be (by rw [hfs, hf, frFold_step hp, if_neg h70, h18]; simp)
        · skip
          try simp only [Bool.and_true, Bool.true_and, decide_eq_true_eq, decide_eq_false_iff_not, Bool.and_eq_true, Bool.or_eq_true, Bool.and_eq_false_iff, Bool.or_eq_false_iff, Bool.not_eq_true', Bool.not_eq_false', beq_iff_eq, beq_eq_false_iff_ne, Int.not_lt, Int.not_le] at h70
          have hok : Fr1 (frAdd x.2 p).1 := by rcases frAdd_ok hs hpv with h | h; exact h.1; rw [h] at h70; simp at h70
          refine St.skip ?_
          refine St.then_normal ?_
          refine St.rg ?_
          refine St.ev _ (Ev.ldbA (Opd.mk rfl) Try.underlying24 trivial (by exact sz24)) rfl ?_
          refine St.storeA (Opd.mk rfl) (Opd.mk rfl) sz24 (by first | simp only [List.length_cons, List.length_nil] | rfl) rfl ?_
          refine St.nil ?_
          refine St.in_normal ?_
          refine St.then_normal ?_
          refine St.rg ?_
          refine St.ev _ (Ev.move (Opd.mk rfl)) rfl ?_
          refine St.ev _ (Ev.add (Opd.mk rfl) (Opd.mk rfl) (by omega)) rfl ?_
          refine St.ev _ (Ev.assign (Opd.mk rfl)) rfl ?_
          refine St.nil ?_
          refine St.then_normal ?_
          refine St.againH (x.1 + 1, (frAdd x.2 p).1) ⟨by dsimp only; omega, hok, by dsimp only; rw [hf, frFold_step hp, if_pos h70]⟩ (by first | omega | (dsimp only; omega)) (by repeat (first | exact Sub.nil | refine Sub.cons (by first | rfl | exact congrArg (fun z => some (iv z)) (by omega) | exact congrArg (fun z => some (Value.bool z)) (by first | assumption | exact Eq.symm (by assumption))) ?_)) (fun _ hw => hw.sub)
      · skip
        try simp only [Bool.and_true, Bool.true_and, decide_eq_true_eq, decide_eq_false_iff_not, Bool.and_eq_true, Bool.or_eq_true, Bool.and_eq_false_iff, Bool.or_eq_false_iff, Bool.not_eq_true', Bool.not_eq_false', beq_iff_eq, beq_eq_false_iff_ne, Int.not_lt, Int.not_le] at h56
        refine St.exit ?_
        refine St.then_exit ?_
        refine St.then_exit ?_
        refine St.in_hit ?_
        refine St.then_normal ?_
        refine St.seq ?_
        refine St.rg ?_
        refine St.ev _ (Ev.fldb0 (Opd.mk rfl) fo26_0) rfl ?_
        refine St.ev _ (Ev.ldb (Opd.mk rfl) Try.underlying3 trivial (by rfl)) rfl ?_
        refine St.ev _ (Ev.eql (Opd.mk rfl) (Opd.mk rfl)) rfl ?_
        refine St.ev _ (Ev.move (Opd.mk rfl)) rfl ?_
        refine St.gt _ rfl rfl (fun hg => Ev.ldbA (Opd.mk rfl) Try.underlying24 trivial (by exact sz24)) rfl ?_
        refine St.gt _ rfl rfl (fun hg => Ev.ldbA (Opd.mk rfl) Try.underlying24 trivial (by exact sz24)) rfl ?_
        refine St.gt _ rfl rfl (fun hg => Ev.structeql (Opd.gv rfl hg) (Opd.gv rfl hg) Try.eqGuardType24 (fun w => eqf24 _ _ _ _ w)) rfl ?_
        refine St.ev _ (Ev.and (Opd.mk rfl) (fun hp => Opd.gv rfl hp)) rfl ?_
        refine St.ev _ (Ev.assign (Opd.mk rfl)) rfl ?_
        refine St.nil ?_
        refine St.then_normal ?_
        refine St.rett ?_
        refine St.rets [_] [] Try.results7 ⟨rfl, trivial⟩ ?_ (fun _ hw => hw.sub)
        exact be (by rw [hfs, hf, frFold_end (by omega)]; simp)

end Go.Proofs.Ytilpbgnlofoacaa
