/-
  The walks of the operations of the reference, of the first test, and of the sum of a list.
  Conditions: the fractions are integers of their types.
-/
import Derived.Test.YtilpbgnlofoacaaW5
import Derived.Test.YtilpbgnlofoacaaFracA
set_option linter.unusedSimpArgs false
set_option linter.unusedVariables false
namespace Go.Proofs.Ytilpbgnlofoacaa
open Go Go.J

theorem Make_spec (n d : Int) (hn : i64ok n) (hd : i64ok d) : FnV Try.prog 11 #[iv n, iv d] [] (frR (frMake n d)) := by
  refine FnV.body0 (args := [iv n, iv d]) 34 Try.func11 rfl Try.ntmps11 rfl (fun c => ?_)
  refine St.seq ?_
  have hn2 := hn
  have hd2 := hd
  unfold i64ok at hn2 hd2
  refine St.rg ?_
  refine St.alloc zc24 rfl (fun b4 => ?_)
  refine St.alloc zc26 rfl (fun b5 => ?_)
  refine St.nil ?_
  refine St.then_normal ?_
  refine St.seq ?_
  refine St.seq ?_
  refine St.rg ?_
  refine St.ev _ (Ev.move (Opd.mk rfl)) rfl ?_
  refine St.ev _ (Ev.eql (Opd.mk rfl) (Opd.mk rfl)) rfl ?_
  refine St.nil ?_
  refine St.then_normal ?_
  refine St.cond _ rfl (fun h10 => ?_) (fun h10 => ?_)
  · skip
    try simp only [Bool.and_true, Bool.true_and, decide_eq_true_eq, decide_eq_false_iff_not, Bool.and_eq_true, Bool.or_eq_true, Bool.and_eq_false_iff, Bool.or_eq_false_iff, Bool.not_eq_true', Bool.not_eq_false', beq_iff_eq, beq_eq_false_iff_ne, Int.not_lt, Int.not_le] at h10
    refine St.seq ?_
    refine St.rg ?_
    refine St.ev _ (Ev.build (ps := []) (Opds.nil) (fun w => bld24_  w)) rfl ?_
    refine St.ev _ (Ev.build (ps := [(0, (Operand.const (Value.int IntKind.i64 19))), (1, (Operand.const (Value.int IntKind.i64 (-2))))]) (Opds.cons (Opd.mk rfl) (Opds.cons (Opd.mk rfl) Opds.nil)) (fun w => bld26_0_1 rfl rfl w)) rfl ?_
    refine St.storeA (Opd.mk rfl) (Opd.mk rfl) sz24 (by first | simp only [List.length_cons, List.length_nil] | rfl) rfl ?_
    refine St.storeA (Opd.mk rfl) (Opd.mk rfl) sz26 (by first | simp only [List.length_cons, List.length_nil] | rfl) rfl ?_
    refine St.nil ?_
    refine St.then_normal ?_
    refine St.rett ?_
    refine St.then_ret ?_
    refine St.rets [_, _] [] Try.results11 ⟨⟨_, _, _, _, rfl, InB.mem, .inl ⟨⟨_, Try.underlying24⟩, sz24, rfl⟩⟩, ⟨⟨_, _, _, _, rfl, InB.mem, .inl ⟨⟨_, Try.underlying26⟩, sz26, rfl⟩⟩, trivial⟩⟩ ?_ (fun _ hw => hw.sub)
    exact fr3e (by unfold frMake; rw [if_pos h10])
  · skip
    try simp only [Bool.and_true, Bool.true_and, decide_eq_true_eq, decide_eq_false_iff_not, Bool.and_eq_true, Bool.or_eq_true, Bool.and_eq_false_iff, Bool.or_eq_false_iff, Bool.not_eq_true', Bool.not_eq_false', beq_iff_eq, beq_eq_false_iff_ne, Int.not_lt, Int.not_le] at h10
    have hg : Nat.gcd n.natAbs d.natAbs ≠ 0 := by have := Nat.gcd_pos_of_pos_right n.natAbs (show 0 < d.natAbs by omega); omega
    refine St.skip ?_
    refine St.then_normal ?_
    refine St.seq ?_
    refine St.rg ?_
    refine St.ev _ (Ev.move (Opd.mk rfl)) rfl ?_
    refine St.ev _ (Ev.call (size_spec n hn) cb25 (Opds.cons (Opd.mk rfl) Opds.nil)) rfl ?_
    refine St.ev _ (Ev.move (Opd.mk rfl)) rfl ?_
    refine St.ev _ (Ev.call (size_spec d hd) cb25 (Opds.cons (Opd.mk rfl) Opds.nil)) rfl ?_
    refine St.ev _ (Ev.assign (Opd.mk rfl)) rfl ?_
    refine St.ev _ (Ev.assign (Opd.mk rfl)) rfl ?_
    refine St.nil ?_
    refine St.then_normal ?_
    refine St.seq ?_
    refine St.rg ?_
    refine St.ev _ (Ev.move (Opd.mk rfl)) rfl ?_
    refine St.ev _ (Ev.move (Opd.mk rfl)) rfl ?_
    refine St.ev _ (Ev.call (gcd_spec n.natAbs d.natAbs) cb26 (Opds.cons (Opd.mk rfl) (Opds.cons (Opd.mk rfl) Opds.nil))) rfl ?_
    refine St.ev _ (Ev.assign (Opd.mk rfl)) rfl ?_
    refine St.nil ?_
    refine St.then_normal ?_
    refine St.seq ?_
    refine St.rqs 14 mixed (by kernel_rfl) (by kernel_rfl) (Mm.drawn _ _) ?_
    refine Sq.ev _ (Ev.move (Opd.mk rfl)) rfl ?_
    refine Sq.ev _ (Ev.lss (Opd.mk rfl) (Opd.mk rfl)) rfl ?_
    refine Sq.ev _ (Ev.move (Opd.mk rfl)) rfl ?_
    refine Sq.ev _ (Ev.lss (Opd.mk rfl) (Opd.mk rfl)) rfl ?_
    refine Sq.ev _ (Ev.boolneq (Opd.mk rfl) (Opd.mk rfl) Try.underlying4) rfl ?_
    refine Sq.ev _ (Ev.move (Opd.mk rfl)) rfl ?_
    refine Sq.ev _ (Ev.move (Opd.mk rfl)) rfl ?_
    refine Sq.ev _ (Ev.quoU (Opd.mk rfl) (Opd.mk rfl) (by omega)) rfl ?_
    refine Sq.ev _ (Ev.move (Opd.mk rfl)) rfl ?_
    refine Sq.ev _ (Ev.move (Opd.mk rfl)) rfl ?_
    refine Sq.ev _ (Ev.quoU (Opd.mk rfl) (Opd.mk rfl) (by omega)) rfl ?_
    refine Sq.ev _ (Ev.call (of_spec _ _ _) cb27 (Opds.cons (Opd.mk rfl) (Opds.cons (Opd.mk rfl) (Opds.cons (Opd.mk rfl) Opds.nil)))) rfl ?_
    refine Sq.ev _ (Ev.extract (Opd.mk rfl) rfl) rfl ?_
    refine Sq.ev _ (Ev.extract (Opd.mk rfl) rfl) rfl ?_
    refine Sq.tail ?_
    refine St.storeA (Opd.mk rfl) (Opd.mk rfl) sz24 (by first | simp only [List.length_cons, List.length_nil] | rfl) rfl ?_
    refine St.storeA (Opd.mk rfl) (Opd.mk rfl) sz26 (by first | simp only [List.length_cons, List.length_nil] | rfl) rfl ?_
    refine St.nil ?_
    refine St.then_normal ?_
    refine St.rett ?_
    refine St.rets [_, _] [] Try.results11 ⟨⟨_, _, _, _, rfl, InB.mem, .inl ⟨⟨_, Try.underlying24⟩, sz24, rfl⟩⟩, ⟨⟨_, _, _, _, rfl, InB.mem, .inl ⟨⟨_, Try.underlying26⟩, sz26, rfl⟩⟩, trivial⟩⟩ ?_ (fun _ hw => hw.sub)
    exact frR_e (by unfold frMake; rw [if_neg h10]; rfl)

theorem FracDo_spec (k : Nat) (x y : Pr) (hx : prOk x) (hy : prOk y) : FnV Try.prog 24 #[iv k, frv x, frv y] [] (frR (frDo k x y)) := by
  refine FnV.body0 (args := [iv k, frv x, frv y]) 91 Try.func24 rfl Try.ntmps24 rfl (fun c => ?_)
  refine St.seq ?_
  refine St.rg ?_
  refine St.boxA (Opd.mk rfl) rfl (fun b4 => ?_)
  refine St.boxA (Opd.mk rfl) rfl (fun b5 => ?_)
  refine St.alloc zc24 rfl (fun b6 => ?_)
  refine St.alloc zc26 rfl (fun b7 => ?_)
  refine St.nil ?_
  refine St.then_normal ?_
  refine St.seq ?_
  refine St.rg ?_
  refine St.ev _ (Ev.ldbA (Opd.mk rfl) Try.underlying24 trivial (by exact sz24)) rfl ?_
  refine St.ev _ (Ev.ldbA (Opd.mk rfl) Try.underlying24 trivial (by exact sz24)) rfl ?_
  refine St.ev _ (Ev.call (FracBoth_spec x y hx hy) cb14 (Opds.cons (Opd.mk rfl) (Opds.cons (Opd.mk rfl) Opds.nil))) rfl ?_
  refine St.alloc zc26 rfl (fun b8 => ?_)
  refine St.storeA (Opd.mk rfl) (Opd.mk rfl) sz26 (by first | simp only [List.length_cons, List.length_nil] | rfl) rfl ?_
  refine St.nil ?_
  refine St.then_normal ?_
  refine St.seq ?_
  refine St.seq ?_
  refine St.rg ?_
  refine St.ev _ (Ev.fldb0 (Opd.mk rfl) fo26_0) rfl ?_
  refine St.ev _ (Ev.ldb (Opd.mk rfl) Try.underlying3 trivial (by rfl)) rfl ?_
  refine St.ev _ (Ev.neq (Opd.mk rfl) (Opd.mk rfl)) rfl ?_
  refine St.nil ?_
  refine St.then_normal ?_
  refine St.cond _ rfl (fun h14 => ?_) (fun h14 => ?_)
  · skip
    try simp only [Bool.and_true, Bool.true_and, decide_eq_true_eq, decide_eq_false_iff_not, Bool.and_eq_true, Bool.or_eq_true, Bool.and_eq_false_iff, Bool.or_eq_false_iff, Bool.not_eq_true', Bool.not_eq_false', beq_iff_eq, beq_eq_false_iff_ne, Int.not_lt, Int.not_le] at h14
    have hb : ¬ (frBoth x y).1 = 0 := by simpa using h14
    refine St.seq ?_
    refine St.par [b6, b7] mixed ?_
    refine SW.defer 0 (by repeat (first | refine NP.then ?_ | refine NP.inBlock ?_ | exact NP.body)) (by kernel_rfl) rfl (fun R => Ev.build (ps := []) (Opds.nil) (fun w => bld24_  w)) (by kernel_rfl) rfl ?_
    refine SW.defer 1 (by repeat (first | refine NP.then ?_ | refine NP.inBlock ?_ | exact NP.body)) (by kernel_rfl) rfl (fun R => Ev.ldbA (Opd.mk rfl) Try.underlying26 trivial (by exact sz26)) (by kernel_rfl) rfl ?_
    refine SW.turn1 (i := 2) (by kernel_rfl) rfl ?_
    refine St.storeA (Opd.mk rfl) (Opd.mk rfl) sz24 (by first | simp only [List.length_cons, List.length_nil] | rfl) rfl ?_
    refine St.nil ?_
    refine St.then_normal ?_
    refine SW.go ?_
    refine SW.turn1 (i := 3) (by kernel_rfl) rfl ?_
    refine St.storeA (Opd.mk rfl) (Opd.mk rfl) sz26 (by first | simp only [List.length_cons, List.length_nil] | rfl) rfl ?_
    refine St.nil ?_
    refine St.then_normal ?_
    refine SW.go ?_
    refine SW.done (by kernel_rfl) ?_
    refine St.then_normal ?_
    refine St.rett ?_
    refine St.then_ret ?_
    refine St.rets [_, _] [] Try.results24 ⟨⟨_, _, _, _, rfl, InB.mem, .inl ⟨⟨_, Try.underlying24⟩, sz24, rfl⟩⟩, ⟨⟨_, _, _, _, rfl, InB.mem, .inl ⟨⟨_, Try.underlying26⟩, sz26, rfl⟩⟩, trivial⟩⟩ ?_ (fun _ hw => hw.sub)
    exact fr3b (by unfold frDo; rw [if_neg hb])
  · skip
    try simp only [Bool.and_true, Bool.true_and, decide_eq_true_eq, decide_eq_false_iff_not, Bool.and_eq_true, Bool.or_eq_true, Bool.and_eq_false_iff, Bool.or_eq_false_iff, Bool.not_eq_true', Bool.not_eq_false', beq_iff_eq, beq_eq_false_iff_ne, Int.not_lt, Int.not_le] at h14
    have hb : (frBoth x y).1 = 0 := by simpa using h14
    obtain ⟨fx, fy⟩ := frBoth_iff.1 hb
    have hx1 := fx
    have hy1 := fy
    have hx0 := hx1
    have hy0 := hy1
    obtain ⟨x1, x2, x3, x4, x5⟩ := hx0
    obtain ⟨y1, y2, y3, y4, y5⟩ := hy0
    have m1 := nat_prod (show x.1.natAbs ≤ 1152921504606846976 by omega) (show y.2.toNat ≤ 1152921504606846976 by omega)
    have m2 := nat_prod (show y.1.natAbs ≤ 1152921504606846976 by omega) (show x.2.toNat ≤ 1152921504606846976 by omega)
    have m3 := nat_prod (show x.2.toNat ≤ 1152921504606846976 by omega) (show y.2.toNat ≤ 1152921504606846976 by omega)
    have m4 := nat_prod (show x.1.natAbs ≤ 1152921504606846976 by omega) (show y.1.natAbs ≤ 1152921504606846976 by omega)
    have m5 := nat_prod (show x.2.toNat ≤ 1152921504606846976 by omega) (show y.1.natAbs ≤ 1152921504606846976 by omega)
    have d0 := fr_dpos hx1 hy1
    refine St.skip ?_
    refine St.then_normal ?_
    refine St.seq ?_
    refine St.seq ?_
    refine St.rg ?_
    refine St.ev _ (Ev.move (Opd.mk rfl)) rfl ?_
    refine St.ev _ (Ev.eql (Opd.mk rfl) (Opd.mk rfl)) rfl ?_
    refine St.nil ?_
    refine St.then_normal ?_
    refine St.cond _ rfl (fun h18 => ?_) (fun h18 => ?_)
    · skip
      try simp only [Bool.and_true, Bool.true_and, decide_eq_true_eq, decide_eq_false_iff_not, Bool.and_eq_true, Bool.or_eq_true, Bool.and_eq_false_iff, Bool.or_eq_false_iff, Bool.not_eq_true', Bool.not_eq_false', beq_iff_eq, beq_eq_false_iff_ne, Int.not_lt, Int.not_le] at h18
      obtain rfl : k = 0 := by omega
      refine St.seq ?_
      refine St.rg ?_
      refine St.ev _ (Ev.ldbA (Opd.mk rfl) Try.underlying24 trivial (by exact sz24)) rfl ?_
      refine St.ev _ (Ev.ldbA (Opd.mk rfl) Try.underlying24 trivial (by exact sz24)) rfl ?_
      refine St.ev _ (Ev.call (FracSum_spec x y fx fy) cb20 (Opds.cons (Opd.mk rfl) (Opds.cons (Opd.mk rfl) Opds.nil))) rfl ?_
      refine St.ev _ (Ev.extract (Opd.mk rfl) rfl) rfl ?_
      refine St.ev _ (Ev.extract (Opd.mk rfl) rfl) rfl ?_
      refine St.storeA (Opd.mk rfl) (Opd.mk rfl) sz24 (by first | simp only [List.length_cons, List.length_nil] | rfl) rfl ?_
      refine St.storeA (Opd.mk rfl) (Opd.mk rfl) sz26 (by first | simp only [List.length_cons, List.length_nil] | rfl) rfl ?_
      refine St.nil ?_
      refine St.then_normal ?_
      refine St.rett ?_
      refine St.then_ret ?_
      refine St.rets [_, _] [] Try.results24 ⟨⟨_, _, _, _, rfl, InB.mem, .inl ⟨⟨_, Try.underlying24⟩, sz24, rfl⟩⟩, ⟨⟨_, _, _, _, rfl, InB.mem, .inl ⟨⟨_, Try.underlying26⟩, sz26, rfl⟩⟩, trivial⟩⟩ ?_ (fun _ hw => hw.sub)
      exact frR_e (by unfold frDo; exact (if_pos hb).symm)
    · skip
      try simp only [Bool.and_true, Bool.true_and, decide_eq_true_eq, decide_eq_false_iff_not, Bool.and_eq_true, Bool.or_eq_true, Bool.and_eq_false_iff, Bool.or_eq_false_iff, Bool.not_eq_true', Bool.not_eq_false', beq_iff_eq, beq_eq_false_iff_ne, Int.not_lt, Int.not_le] at h18
      refine St.skip ?_
      refine St.then_normal ?_
      refine St.seq ?_
      refine St.seq ?_
      refine St.rg ?_
      refine St.ev _ (Ev.move (Opd.mk rfl)) rfl ?_
      refine St.ev _ (Ev.eql (Opd.mk rfl) (Opd.mk rfl)) rfl ?_
      refine St.nil ?_
      refine St.then_normal ?_
      refine St.cond _ rfl (fun h25 => ?_) (fun h25 => ?_)
      · skip
        try simp only [Bool.and_true, Bool.true_and, decide_eq_true_eq, decide_eq_false_iff_not, Bool.and_eq_true, Bool.or_eq_true, Bool.and_eq_false_iff, Bool.or_eq_false_iff, Bool.not_eq_true', Bool.not_eq_false', beq_iff_eq, beq_eq_false_iff_ne, Int.not_lt, Int.not_le] at h25
        obtain rfl : k = 1 := by omega
        refine St.seq ?_
        refine St.rg ?_
        refine St.ev _ (Ev.ldbA (Opd.mk rfl) Try.underlying24 trivial (by exact sz24)) rfl ?_
        refine St.ev _ (Ev.fldb0 (Opd.mk rfl) fo24_0) rfl ?_
        refine St.ev _ (Ev.ldb (Opd.mk rfl) Try.underlying3 trivial (by rfl)) rfl ?_
        refine St.ev _ (Ev.neg (Opd.mk rfl) (by omega)) rfl ?_
        refine St.ev _ (Ev.fldb0 (Opd.mk rfl) fo24_1) rfl ?_
        refine St.ev _ (Ev.ldb (Opd.mk rfl) Try.underlying3 trivial (by rfl)) rfl ?_
        refine St.ev _ (Ev.build (ps := [(0, (Operand.tmp 29)), (1, (Operand.tmp 31))]) (Opds.cons (Opd.mk rfl) (Opds.cons (Opd.mk rfl) Opds.nil)) (fun w => bld24_0_1 rfl rfl w)) rfl ?_
        refine St.ev _ (Ev.call (FracSum_spec x (frNeg y) fx (frNeg_ok fy)) cb20 (Opds.cons (Opd.mk rfl) (Opds.cons (Opd.mk rfl) Opds.nil))) rfl ?_
        refine St.ev _ (Ev.extract (Opd.mk rfl) rfl) rfl ?_
        refine St.ev _ (Ev.extract (Opd.mk rfl) rfl) rfl ?_
        refine St.storeA (Opd.mk rfl) (Opd.mk rfl) sz24 (by first | simp only [List.length_cons, List.length_nil] | rfl) rfl ?_
        refine St.storeA (Opd.mk rfl) (Opd.mk rfl) sz26 (by first | simp only [List.length_cons, List.length_nil] | rfl) rfl ?_
        refine St.nil ?_
        refine St.then_normal ?_
        refine St.rett ?_
        refine St.then_ret ?_
        refine St.rets [_, _] [] Try.results24 ⟨⟨_, _, _, _, rfl, InB.mem, .inl ⟨⟨_, Try.underlying24⟩, sz24, rfl⟩⟩, ⟨⟨_, _, _, _, rfl, InB.mem, .inl ⟨⟨_, Try.underlying26⟩, sz26, rfl⟩⟩, trivial⟩⟩ ?_ (fun _ hw => hw.sub)
        exact frR_e (by unfold frDo; exact (if_pos hb).symm)
      · skip
        try simp only [Bool.and_true, Bool.true_and, decide_eq_true_eq, decide_eq_false_iff_not, Bool.and_eq_true, Bool.or_eq_true, Bool.and_eq_false_iff, Bool.or_eq_false_iff, Bool.not_eq_true', Bool.not_eq_false', beq_iff_eq, beq_eq_false_iff_ne, Int.not_lt, Int.not_le] at h25
        refine St.skip ?_
        refine St.then_normal ?_
        refine St.seq ?_
        refine St.seq ?_
        refine St.rg ?_
        refine St.ev _ (Ev.move (Opd.mk rfl)) rfl ?_
        refine St.ev _ (Ev.eql (Opd.mk rfl) (Opd.mk rfl)) rfl ?_
        refine St.nil ?_
        refine St.then_normal ?_
        refine St.cond _ rfl (fun h37 => ?_) (fun h37 => ?_)
        · skip
          try simp only [Bool.and_true, Bool.true_and, decide_eq_true_eq, decide_eq_false_iff_not, Bool.and_eq_true, Bool.or_eq_true, Bool.and_eq_false_iff, Bool.or_eq_false_iff, Bool.not_eq_true', Bool.not_eq_false', beq_iff_eq, beq_eq_false_iff_ne, Int.not_lt, Int.not_le] at h37
          obtain rfl : k = 2 := by omega
          refine St.seq ?_
          refine St.rqs 24 mixed (by kernel_rfl) (by kernel_rfl) (Mm.drawn _ _) ?_
          refine Sq.ev _ (Ev.fldb0 (Opd.mk rfl) fo24_0) rfl ?_
          refine Sq.ev _ (Ev.ldb (Opd.mk rfl) Try.underlying3 trivial (by rfl)) rfl ?_
          refine Sq.ev _ (Ev.lss (Opd.mk rfl) (Opd.mk rfl)) rfl ?_
          refine Sq.ev _ (Ev.fldb0 (Opd.mk rfl) fo24_0) rfl ?_
          refine Sq.ev _ (Ev.ldb (Opd.mk rfl) Try.underlying3 trivial (by rfl)) rfl ?_
          refine Sq.ev _ (Ev.lss (Opd.mk rfl) (Opd.mk rfl)) rfl ?_
          refine Sq.ev _ (Ev.boolneq (Opd.mk rfl) (Opd.mk rfl) Try.underlying4) rfl ?_
          refine Sq.ev _ (Ev.fldb0 (Opd.mk rfl) fo24_0) rfl ?_
          refine Sq.ev _ (Ev.ldb (Opd.mk rfl) Try.underlying3 trivial (by rfl)) rfl ?_
          refine Sq.ev _ (Ev.call (Size_spec x.1 hx.1) cb29 (Opds.cons (Opd.mk rfl) Opds.nil)) rfl ?_
          refine Sq.ev _ (Ev.fldb0 (Opd.mk rfl) fo24_0) rfl ?_
          refine Sq.ev _ (Ev.ldb (Opd.mk rfl) Try.underlying3 trivial (by rfl)) rfl ?_
          refine Sq.ev _ (Ev.call (Size_spec y.1 hy.1) cb29 (Opds.cons (Opd.mk rfl) Opds.nil)) rfl ?_
          refine Sq.ev _ (Ev.call (WideMul_spec x.1.natAbs y.1.natAbs (by omega) (by omega)) cb32 (Opds.cons (Opd.mk rfl) (Opds.cons (Opd.mk rfl) Opds.nil))) rfl ?_
          refine Sq.ev _ (Ev.fldb0 (Opd.mk rfl) fo24_1) rfl ?_
          refine Sq.ev _ (Ev.ldb (Opd.mk rfl) Try.underlying3 trivial (by rfl)) rfl ?_
          refine Sq.ev _ (Ev.convIN (x.2.toNat) (Opd.mk rfl) (by rw [Try.underlying3]; rfl) Try.underlying43 (by omega)) rfl ?_
          refine Sq.ev _ (Ev.fldb0 (Opd.mk rfl) fo24_1) rfl ?_
          refine Sq.ev _ (Ev.ldb (Opd.mk rfl) Try.underlying3 trivial (by rfl)) rfl ?_
          refine Sq.ev _ (Ev.convIN (y.2.toNat) (Opd.mk rfl) (by rw [Try.underlying3]; rfl) Try.underlying43 (by omega)) rfl ?_
          refine Sq.ev _ (Ev.call (WideMul_spec x.2.toNat y.2.toNat (by omega) (by omega)) cb32 (Opds.cons (Opd.mk rfl) (Opds.cons (Opd.mk rfl) Opds.nil))) rfl ?_
          refine Sq.ev _ (Ev.call (FracOf_spec _ (x.1.natAbs * y.1.natAbs) (x.2.toNat * y.2.toNat) (by omega) d0 (by omega)) cb28 (Opds.cons (Opd.mk rfl) (Opds.cons (Opd.mk rfl) (Opds.cons (Opd.mk rfl) Opds.nil)))) rfl ?_
          refine Sq.ev _ (Ev.extract (Opd.mk rfl) rfl) rfl ?_
          refine Sq.ev _ (Ev.extract (Opd.mk rfl) rfl) rfl ?_
          refine Sq.tail ?_
          refine St.storeA (Opd.mk rfl) (Opd.mk rfl) sz24 (by first | simp only [List.length_cons, List.length_nil] | rfl) rfl ?_
          refine St.storeA (Opd.mk rfl) (Opd.mk rfl) sz26 (by first | simp only [List.length_cons, List.length_nil] | rfl) rfl ?_
          refine St.nil ?_
          refine St.then_normal ?_
          refine St.rett ?_
          refine St.then_ret ?_
          refine St.rets [_, _] [] Try.results24 ⟨⟨_, _, _, _, rfl, InB.mem, .inl ⟨⟨_, Try.underlying24⟩, sz24, rfl⟩⟩, ⟨⟨_, _, _, _, rfl, InB.mem, .inl ⟨⟨_, Try.underlying26⟩, sz26, rfl⟩⟩, trivial⟩⟩ ?_ (fun _ hw => hw.sub)
          exact frR_e (by unfold frDo; rw [if_pos hb]; exact (frMul_eq fx fy).symm)
        · skip
          try simp only [Bool.and_true, Bool.true_and, decide_eq_true_eq, decide_eq_false_iff_not, Bool.and_eq_true, Bool.or_eq_true, Bool.and_eq_false_iff, Bool.or_eq_false_iff, Bool.not_eq_true', Bool.not_eq_false', beq_iff_eq, beq_eq_false_iff_ne, Int.not_lt, Int.not_le] at h37
          refine St.skip ?_
          refine St.then_normal ?_
          refine St.seq ?_
          refine St.seq ?_
          refine St.rg ?_
          refine St.ev _ (Ev.fldb0 (Opd.mk rfl) fo24_0) rfl ?_
          refine St.ev _ (Ev.ldb (Opd.mk rfl) Try.underlying3 trivial (by rfl)) rfl ?_
          refine St.ev _ (Ev.eql (Opd.mk rfl) (Opd.mk rfl)) rfl ?_
          refine St.nil ?_
          refine St.then_normal ?_
          refine St.cond _ rfl (fun h64 => ?_) (fun h64 => ?_)
          · skip
            try simp only [Bool.and_true, Bool.true_and, decide_eq_true_eq, decide_eq_false_iff_not, Bool.and_eq_true, Bool.or_eq_true, Bool.and_eq_false_iff, Bool.or_eq_false_iff, Bool.not_eq_true', Bool.not_eq_false', beq_iff_eq, beq_eq_false_iff_ne, Int.not_lt, Int.not_le] at h64
            obtain ⟨j, rfl⟩ : ∃ j, k = j + 3 := ⟨k - 3, by omega⟩
            refine St.seq ?_
            refine St.rg ?_
            refine St.ev _ (Ev.build (ps := []) (Opds.nil) (fun w => bld24_  w)) rfl ?_
            refine St.ev _ (Ev.build (ps := [(0, (Operand.const (Value.int IntKind.i64 19))), (1, (Operand.const (Value.int IntKind.i64 (-2))))]) (Opds.cons (Opd.mk rfl) (Opds.cons (Opd.mk rfl) Opds.nil)) (fun w => bld26_0_1 rfl rfl w)) rfl ?_
            refine St.storeA (Opd.mk rfl) (Opd.mk rfl) sz24 (by first | simp only [List.length_cons, List.length_nil] | rfl) rfl ?_
            refine St.storeA (Opd.mk rfl) (Opd.mk rfl) sz26 (by first | simp only [List.length_cons, List.length_nil] | rfl) rfl ?_
            refine St.nil ?_
            refine St.then_normal ?_
            refine St.rett ?_
            refine St.then_ret ?_
            refine St.rets [_, _] [] Try.results24 ⟨⟨_, _, _, _, rfl, InB.mem, .inl ⟨⟨_, Try.underlying24⟩, sz24, rfl⟩⟩, ⟨⟨_, _, _, _, rfl, InB.mem, .inl ⟨⟨_, Try.underlying26⟩, sz26, rfl⟩⟩, trivial⟩⟩ ?_ (fun _ hw => hw.sub)
            exact fr3e (by unfold frDo; rw [if_pos hb]; exact if_pos h64)
          · skip
            try simp only [Bool.and_true, Bool.true_and, decide_eq_true_eq, decide_eq_false_iff_not, Bool.and_eq_true, Bool.or_eq_true, Bool.and_eq_false_iff, Bool.or_eq_false_iff, Bool.not_eq_true', Bool.not_eq_false', beq_iff_eq, beq_eq_false_iff_ne, Int.not_lt, Int.not_le] at h64
            obtain ⟨j, rfl⟩ : ∃ j, k = j + 3 := ⟨k - 3, by omega⟩
            have d1 : 0 < (x.2.toNat * y.1.natAbs) := Nat.mul_pos (by omega) (by omega)
            refine St.skip ?_
            refine St.then_normal ?_
            refine St.seq ?_
            refine St.rqs 24 mixed (by kernel_rfl) (by kernel_rfl) (Mm.drawn _ _) ?_
            refine Sq.ev _ (Ev.fldb0 (Opd.mk rfl) fo24_0) rfl ?_
            refine Sq.ev _ (Ev.ldb (Opd.mk rfl) Try.underlying3 trivial (by rfl)) rfl ?_
            refine Sq.ev _ (Ev.lss (Opd.mk rfl) (Opd.mk rfl)) rfl ?_
            refine Sq.ev _ (Ev.fldb0 (Opd.mk rfl) fo24_0) rfl ?_
            refine Sq.ev _ (Ev.ldb (Opd.mk rfl) Try.underlying3 trivial (by rfl)) rfl ?_
            refine Sq.ev _ (Ev.lss (Opd.mk rfl) (Opd.mk rfl)) rfl ?_
            refine Sq.ev _ (Ev.boolneq (Opd.mk rfl) (Opd.mk rfl) Try.underlying4) rfl ?_
            refine Sq.ev _ (Ev.fldb0 (Opd.mk rfl) fo24_0) rfl ?_
            refine Sq.ev _ (Ev.ldb (Opd.mk rfl) Try.underlying3 trivial (by rfl)) rfl ?_
            refine Sq.ev _ (Ev.call (Size_spec x.1 hx.1) cb29 (Opds.cons (Opd.mk rfl) Opds.nil)) rfl ?_
            refine Sq.ev _ (Ev.fldb0 (Opd.mk rfl) fo24_1) rfl ?_
            refine Sq.ev _ (Ev.ldb (Opd.mk rfl) Try.underlying3 trivial (by rfl)) rfl ?_
            refine Sq.ev _ (Ev.convIN (y.2.toNat) (Opd.mk rfl) (by rw [Try.underlying3]; rfl) Try.underlying43 (by omega)) rfl ?_
            refine Sq.ev _ (Ev.call (WideMul_spec x.1.natAbs y.2.toNat (by omega) (by omega)) cb32 (Opds.cons (Opd.mk rfl) (Opds.cons (Opd.mk rfl) Opds.nil))) rfl ?_
            refine Sq.ev _ (Ev.fldb0 (Opd.mk rfl) fo24_1) rfl ?_
            refine Sq.ev _ (Ev.ldb (Opd.mk rfl) Try.underlying3 trivial (by rfl)) rfl ?_
            refine Sq.ev _ (Ev.convIN (x.2.toNat) (Opd.mk rfl) (by rw [Try.underlying3]; rfl) Try.underlying43 (by omega)) rfl ?_
            refine Sq.ev _ (Ev.fldb0 (Opd.mk rfl) fo24_0) rfl ?_
            refine Sq.ev _ (Ev.ldb (Opd.mk rfl) Try.underlying3 trivial (by rfl)) rfl ?_
            refine Sq.ev _ (Ev.call (Size_spec y.1 hy.1) cb29 (Opds.cons (Opd.mk rfl) Opds.nil)) rfl ?_
            refine Sq.ev _ (Ev.call (WideMul_spec x.2.toNat y.1.natAbs (by omega) (by omega)) cb32 (Opds.cons (Opd.mk rfl) (Opds.cons (Opd.mk rfl) Opds.nil))) rfl ?_
            refine Sq.ev _ (Ev.call (FracOf_spec _ (x.1.natAbs * y.2.toNat) (x.2.toNat * y.1.natAbs) (by omega) d1 (by omega)) cb28 (Opds.cons (Opd.mk rfl) (Opds.cons (Opd.mk rfl) (Opds.cons (Opd.mk rfl) Opds.nil)))) rfl ?_
            refine Sq.ev _ (Ev.extract (Opd.mk rfl) rfl) rfl ?_
            refine Sq.ev _ (Ev.extract (Opd.mk rfl) rfl) rfl ?_
            refine Sq.tail ?_
            refine St.storeA (Opd.mk rfl) (Opd.mk rfl) sz24 (by first | simp only [List.length_cons, List.length_nil] | rfl) rfl ?_
            refine St.storeA (Opd.mk rfl) (Opd.mk rfl) sz26 (by first | simp only [List.length_cons, List.length_nil] | rfl) rfl ?_
            refine St.nil ?_
            refine St.then_normal ?_
            refine St.rett ?_
            refine St.rets [_, _] [] Try.results24 ⟨⟨_, _, _, _, rfl, InB.mem, .inl ⟨⟨_, Try.underlying24⟩, sz24, rfl⟩⟩, ⟨⟨_, _, _, _, rfl, InB.mem, .inl ⟨⟨_, Try.underlying26⟩, sz26, rfl⟩⟩, trivial⟩⟩ ?_ (fun _ hw => hw.sub)
            exact frR_e (by unfold frDo; rw [if_pos hb]; exact ((if_neg h64).trans (frDiv_eq fx fy h64)).symm)

theorem FracCompare_spec (x y : Pr) (hx : Fr1 x) (hy : Fr1 y) : FnV Try.prog 15 #[frv x, frv y] [] (iv (frCmp x y)) := by
  refine FnV.body0 (args := [frv x, frv y]) 43 Try.func15 rfl Try.ntmps15 rfl (fun c => ?_)
  refine St.seq ?_
  have hx0 := hx
  have hy0 := hy
  obtain ⟨x1, x2, x3, x4, x5⟩ := hx0
  obtain ⟨y1, y2, y3, y4, y5⟩ := hy0
  have m1 := nat_prod (show x.1.natAbs ≤ 1152921504606846976 by omega) (show y.2.toNat ≤ 1152921504606846976 by omega)
  have m2 := nat_prod (show y.1.natAbs ≤ 1152921504606846976 by omega) (show x.2.toNat ≤ 1152921504606846976 by omega)
  have m3 := nat_prod (show x.2.toNat ≤ 1152921504606846976 by omega) (show y.2.toNat ≤ 1152921504606846976 by omega)
  have m4 := nat_prod (show x.1.natAbs ≤ 1152921504606846976 by omega) (show y.1.natAbs ≤ 1152921504606846976 by omega)
  have m5 := nat_prod (show x.2.toNat ≤ 1152921504606846976 by omega) (show y.1.natAbs ≤ 1152921504606846976 by omega)
  have d0 := fr_dpos hx hy
  refine St.rg ?_
  refine St.boxA (Opd.mk rfl) rfl (fun b2 => ?_)
  refine St.boxA (Opd.mk rfl) rfl (fun b3 => ?_)
  refine St.ev _ (Ev.assign (Opd.mk rfl)) rfl ?_
  refine St.nil ?_
  refine St.then_normal ?_
  refine St.seq ?_
  refine St.par [] mixed ?_
  refine SW.defer 0 (by repeat (first | refine NP.then ?_ | refine NP.inBlock ?_ | exact NP.body)) (by kernel_rfl) rfl (fun R => Ev.fldb0 (Opd.mk rfl) fo24_0) (by kernel_rfl) rfl ?_
  refine SW.defer 1 (by repeat (first | refine NP.then ?_ | refine NP.inBlock ?_ | exact NP.body)) (by kernel_rfl) rfl (fun R => Ev.ldb (Opd.mk rfl) Try.underlying3 trivial (by rfl)) (by kernel_rfl) rfl ?_
  refine SW.defer 2 (by repeat (first | refine NP.then ?_ | refine NP.inBlock ?_ | exact NP.body)) (by kernel_rfl) rfl (fun R => Ev.call (Size_spec x.1 (prOk_of hx).1) cb29 (Opds.cons (Opd.mk rfl) Opds.nil)) (by kernel_rfl) rfl ?_
  refine SW.defer 3 (by repeat (first | refine NP.then ?_ | refine NP.inBlock ?_ | exact NP.body)) (by kernel_rfl) rfl (fun R => Ev.fldb0 (Opd.mk rfl) fo24_1) (by kernel_rfl) rfl ?_
  refine SW.defer 4 (by repeat (first | refine NP.then ?_ | refine NP.inBlock ?_ | exact NP.body)) (by kernel_rfl) rfl (fun R => Ev.ldb (Opd.mk rfl) Try.underlying3 trivial (by rfl)) (by kernel_rfl) rfl ?_
  refine SW.defer 5 (by repeat (first | refine NP.then ?_ | refine NP.inBlock ?_ | exact NP.body)) (by kernel_rfl) rfl (fun R => Ev.convIN (y.2.toNat) (Opd.mk rfl) (by rw [Try.underlying3]; rfl) Try.underlying43 (by omega)) (by kernel_rfl) rfl ?_
  refine SW.defer 6 (by repeat (first | refine NP.then ?_ | refine NP.inBlock ?_ | exact NP.body)) (by kernel_rfl) rfl (fun R => Ev.call (WideMul_spec x.1.natAbs y.2.toNat (by omega) (by omega)) cb32 (Opds.cons (Opd.mk rfl) (Opds.cons (Opd.mk rfl) Opds.nil))) (by kernel_rfl) rfl ?_
  refine SW.defer 7 (by repeat (first | refine NP.then ?_ | refine NP.inBlock ?_ | exact NP.body)) (by kernel_rfl) rfl (fun R => Ev.fldb0 (Opd.mk rfl) fo24_0) (by kernel_rfl) rfl ?_
  refine SW.defer 8 (by repeat (first | refine NP.then ?_ | refine NP.inBlock ?_ | exact NP.body)) (by kernel_rfl) rfl (fun R => Ev.ldb (Opd.mk rfl) Try.underlying3 trivial (by rfl)) (by kernel_rfl) rfl ?_
  refine SW.defer 9 (by repeat (first | refine NP.then ?_ | refine NP.inBlock ?_ | exact NP.body)) (by kernel_rfl) rfl (fun R => Ev.call (Size_spec y.1 (prOk_of hy).1) cb29 (Opds.cons (Opd.mk rfl) Opds.nil)) (by kernel_rfl) rfl ?_
  refine SW.defer 10 (by repeat (first | refine NP.then ?_ | refine NP.inBlock ?_ | exact NP.body)) (by kernel_rfl) rfl (fun R => Ev.fldb0 (Opd.mk rfl) fo24_1) (by kernel_rfl) rfl ?_
  refine SW.defer 11 (by repeat (first | refine NP.then ?_ | refine NP.inBlock ?_ | exact NP.body)) (by kernel_rfl) rfl (fun R => Ev.ldb (Opd.mk rfl) Try.underlying3 trivial (by rfl)) (by kernel_rfl) rfl ?_
  refine SW.defer 12 (by repeat (first | refine NP.then ?_ | refine NP.inBlock ?_ | exact NP.body)) (by kernel_rfl) rfl (fun R => Ev.convIN (x.2.toNat) (Opd.mk rfl) (by rw [Try.underlying3]; rfl) Try.underlying43 (by omega)) (by kernel_rfl) rfl ?_
  refine SW.defer 13 (by repeat (first | refine NP.then ?_ | refine NP.inBlock ?_ | exact NP.body)) (by kernel_rfl) rfl (fun R => Ev.call (WideMul_spec y.1.natAbs x.2.toNat (by omega) (by omega)) cb32 (Opds.cons (Opd.mk rfl) (Opds.cons (Opd.mk rfl) Opds.nil))) (by kernel_rfl) rfl ?_
  refine SW.alloc2 14 15 (by kernel_rfl) rfl rfl (by kernel_rfl) (by kernel_rfl) zc49 zc49 rfl rfl rfl (fun b5 b6 => ?_)
  refine SW.turn1 (i := 16) (by kernel_rfl) rfl ?_
  refine St.storeA (Opd.mk rfl) (Opd.mk rfl) sz49 (by first | simp only [List.length_cons, List.length_nil] | rfl) rfl ?_
  refine St.nil ?_
  refine St.then_normal ?_
  refine SW.go ?_
  refine SW.turn1 (i := 17) (by kernel_rfl) rfl ?_
  refine St.storeA (Opd.mk rfl) (Opd.mk rfl) sz49 (by first | simp only [List.length_cons, List.length_nil] | rfl) rfl ?_
  refine St.nil ?_
  refine St.then_normal ?_
  refine SW.go ?_
  refine SW.done (by kernel_rfl) ?_
  refine St.then_normal ?_
  refine St.seq ?_
  refine St.seq ?_
  refine St.rg ?_
  refine St.ev _ (Ev.fldb0 (Opd.mk rfl) fo24_0) rfl ?_
  refine St.ev _ (Ev.ldb (Opd.mk rfl) Try.underlying3 trivial (by rfl)) rfl ?_
  refine St.ev _ (Ev.lss (Opd.mk rfl) (Opd.mk rfl)) rfl ?_
  refine St.ev _ (Ev.move (Opd.mk rfl)) rfl ?_
  refine St.gt _ rfl rfl (fun hg => Ev.fldb0 (Opd.mk rfl) fo24_0) rfl ?_
  refine St.gt _ rfl rfl (fun hg => Ev.ldb (Opd.gv rfl hg) Try.underlying3 trivial (by rfl)) rfl ?_
  refine St.gt _ rfl rfl (fun hg => Ev.lss (Opd.gv rfl hg) (Opd.mk rfl)) rfl ?_
  refine St.ev _ (Ev.and (Opd.mk rfl) (fun hp => Opd.gv rfl hp)) rfl ?_
  refine St.nil ?_
  refine St.then_normal ?_
  refine St.cond _ rfl (fun h28 => ?_) (fun h28 => ?_)
  · skip
    try simp only [Bool.and_true, Bool.true_and, decide_eq_true_eq, decide_eq_false_iff_not, Bool.and_eq_true, Bool.or_eq_true, Bool.and_eq_false_iff, Bool.or_eq_false_iff, Bool.not_eq_true', Bool.not_eq_false', beq_iff_eq, beq_eq_false_iff_ne, Int.not_lt, Int.not_le] at h28
    refine St.rg ?_
    refine St.ev _ (Ev.ldbA (Opd.mk rfl) Try.underlying49 trivial (by exact sz49)) rfl ?_
    refine St.ev _ (Ev.ldbA (Opd.mk rfl) Try.underlying49 trivial (by exact sz49)) rfl ?_
    refine St.storeA (Opd.mk rfl) (Opd.mk rfl) sz49 (by first | simp only [List.length_cons, List.length_nil] | rfl) rfl ?_
    refine St.storeA (Opd.mk rfl) (Opd.mk rfl) sz49 (by first | simp only [List.length_cons, List.length_nil] | rfl) rfl ?_
    refine St.nil ?_
    refine St.then_normal ?_
    refine St.seq ?_
    refine St.seq ?_
    refine St.rg ?_
    refine St.ev _ (Ev.ldbA (Opd.mk rfl) Try.underlying49 trivial (by exact sz49)) rfl ?_
    refine St.ev _ (Ev.ldbA (Opd.mk rfl) Try.underlying49 trivial (by exact sz49)) rfl ?_
    refine St.ev _ (Ev.call (WideLess_spec _ _) cb33 (Opds.cons (Opd.mk rfl) (Opds.cons (Opd.mk rfl) Opds.nil))) rfl ?_
    refine St.nil ?_
    refine St.then_normal ?_
    refine St.cond _ rfl (fun h39 => ?_) (fun h39 => ?_)
    · skip
      try simp only [Bool.and_true, Bool.true_and, decide_eq_true_eq, decide_eq_false_iff_not, Bool.and_eq_true, Bool.or_eq_true, Bool.and_eq_false_iff, Bool.or_eq_false_iff, Bool.not_eq_true', Bool.not_eq_false', beq_iff_eq, beq_eq_false_iff_ne, Int.not_lt, Int.not_le] at h39
      refine St.seq ?_
      refine St.rg ?_
      refine St.ev _ (Ev.assign (Opd.mk rfl)) rfl ?_
      refine St.nil ?_
      refine St.then_normal ?_
      refine St.rett ?_
      refine St.then_ret ?_
      refine St.rets [_] [] Try.results15 ⟨rfl, trivial⟩ ?_ (fun _ hw => hw.sub)
      refine ie ?_
      first | rw [frCmp_mm hx hy (by omega) (by omega)] | rw [frCmp_pp hx hy (by omega) (by omega)]
      generalize x.1.natAbs * y.2.toNat = A at *
      generalize y.1.natAbs * x.2.toNat = C at *
      split <;> (try split) <;> omega
    · skip
      try simp only [Bool.and_true, Bool.true_and, decide_eq_true_eq, decide_eq_false_iff_not, Bool.and_eq_true, Bool.or_eq_true, Bool.and_eq_false_iff, Bool.or_eq_false_iff, Bool.not_eq_true', Bool.not_eq_false', beq_iff_eq, beq_eq_false_iff_ne, Int.not_lt, Int.not_le] at h39
      refine St.skip ?_
      refine St.then_normal ?_
      refine St.seq ?_
      refine St.seq ?_
      refine St.rg ?_
      refine St.ev _ (Ev.ldbA (Opd.mk rfl) Try.underlying49 trivial (by exact sz49)) rfl ?_
      refine St.ev _ (Ev.ldbA (Opd.mk rfl) Try.underlying49 trivial (by exact sz49)) rfl ?_
      refine St.ev _ (Ev.structeql (Opd.mk rfl) (Opd.mk rfl) Try.eqGuardType49 (fun w => eqf49 _ _ _ _ w)) rfl ?_
      refine St.nil ?_
      refine St.then_normal ?_
      refine St.cond _ rfl (fun h42 => ?_) (fun h42 => ?_)
      · skip
        try simp only [Bool.and_true, Bool.true_and, decide_eq_true_eq, decide_eq_false_iff_not, Bool.and_eq_true, Bool.or_eq_true, Bool.and_eq_false_iff, Bool.or_eq_false_iff, Bool.not_eq_true', Bool.not_eq_false', beq_iff_eq, beq_eq_false_iff_ne, Int.not_lt, Int.not_le] at h42
        refine St.seq ?_
        refine St.rg ?_
        refine St.ev _ (Ev.assign (Opd.mk rfl)) rfl ?_
        refine St.nil ?_
        refine St.then_normal ?_
        refine St.rett ?_
        refine St.then_ret ?_
        refine St.rets [_] [] Try.results15 ⟨rfl, trivial⟩ ?_ (fun _ hw => hw.sub)
        refine ie ?_
        first | rw [frCmp_mm hx hy (by omega) (by omega)] | rw [frCmp_pp hx hy (by omega) (by omega)]
        generalize x.1.natAbs * y.2.toNat = A at *
        generalize y.1.natAbs * x.2.toNat = C at *
        split <;> (try split) <;> omega
      · skip
        try simp only [Bool.and_true, Bool.true_and, decide_eq_true_eq, decide_eq_false_iff_not, Bool.and_eq_true, Bool.or_eq_true, Bool.and_eq_false_iff, Bool.or_eq_false_iff, Bool.not_eq_true', Bool.not_eq_false', beq_iff_eq, beq_eq_false_iff_ne, Int.not_lt, Int.not_le] at h42
        refine St.skip ?_
        refine St.then_normal ?_
        refine St.seq ?_
        refine St.rg ?_
        refine St.ev _ (Ev.assign (Opd.mk rfl)) rfl ?_
        refine St.nil ?_
        refine St.then_normal ?_
        refine St.rett ?_
        refine St.rets [_] [] Try.results15 ⟨rfl, trivial⟩ ?_ (fun _ hw => hw.sub)
        refine ie ?_
        first | rw [frCmp_mm hx hy (by omega) (by omega)] | rw [frCmp_pp hx hy (by omega) (by omega)]
        generalize x.1.natAbs * y.2.toNat = A at *
        generalize y.1.natAbs * x.2.toNat = C at *
        split <;> (try split) <;> omega
  · skip
    try simp only [Bool.and_true, Bool.true_and, decide_eq_true_eq, decide_eq_false_iff_not, Bool.and_eq_true, Bool.or_eq_true, Bool.and_eq_false_iff, Bool.or_eq_false_iff, Bool.not_eq_true', Bool.not_eq_false', beq_iff_eq, beq_eq_false_iff_ne, Int.not_lt, Int.not_le] at h28
    refine St.seq ?_
    refine St.rg ?_
    refine St.ev _ (Ev.fldb0 (Opd.mk rfl) fo24_0) rfl ?_
    refine St.ev _ (Ev.ldb (Opd.mk rfl) Try.underlying3 trivial (by rfl)) rfl ?_
    refine St.ev _ (Ev.lss (Opd.mk rfl) (Opd.mk rfl)) rfl ?_
    refine St.nil ?_
    refine St.then_normal ?_
    refine St.cond _ rfl (fun h33 => ?_) (fun h33 => ?_)
    · skip
      try simp only [Bool.and_true, Bool.true_and, decide_eq_true_eq, decide_eq_false_iff_not, Bool.and_eq_true, Bool.or_eq_true, Bool.and_eq_false_iff, Bool.or_eq_false_iff, Bool.not_eq_true', Bool.not_eq_false', beq_iff_eq, beq_eq_false_iff_ne, Int.not_lt, Int.not_le] at h33
      refine St.seq ?_
      refine St.rg ?_
      refine St.ev _ (Ev.assign (Opd.mk rfl)) rfl ?_
      refine St.nil ?_
      refine St.then_normal ?_
      refine St.rett ?_
      refine St.then_ret ?_
      refine St.rets [_] [] Try.results15 ⟨rfl, trivial⟩ ?_ (fun _ hw => hw.sub)
      exact ie (frCmp_mp hx hy (by omega) (by omega)).symm
    · skip
      try simp only [Bool.and_true, Bool.true_and, decide_eq_true_eq, decide_eq_false_iff_not, Bool.and_eq_true, Bool.or_eq_true, Bool.and_eq_false_iff, Bool.or_eq_false_iff, Bool.not_eq_true', Bool.not_eq_false', beq_iff_eq, beq_eq_false_iff_ne, Int.not_lt, Int.not_le] at h33
      refine St.seq ?_
      refine St.rg ?_
      refine St.ev _ (Ev.fldb0 (Opd.mk rfl) fo24_0) rfl ?_
      refine St.ev _ (Ev.ldb (Opd.mk rfl) Try.underlying3 trivial (by rfl)) rfl ?_
      refine St.ev _ (Ev.lss (Opd.mk rfl) (Opd.mk rfl)) rfl ?_
      refine St.nil ?_
      refine St.then_normal ?_
      refine St.cond _ rfl (fun h36 => ?_) (fun h36 => ?_)
      · skip
        try simp only [Bool.and_true, Bool.true_and, decide_eq_true_eq, decide_eq_false_iff_not, Bool.and_eq_true, Bool.or_eq_true, Bool.and_eq_false_iff, Bool.or_eq_false_iff, Bool.not_eq_true', Bool.not_eq_false', beq_iff_eq, beq_eq_false_iff_ne, Int.not_lt, Int.not_le] at h36
        refine St.seq ?_
        refine St.rg ?_
        refine St.ev _ (Ev.assign (Opd.mk rfl)) rfl ?_
        refine St.nil ?_
        refine St.then_normal ?_
        refine St.rett ?_
        refine St.then_ret ?_
        refine St.rets [_] [] Try.results15 ⟨rfl, trivial⟩ ?_ (fun _ hw => hw.sub)
        exact ie (frCmp_pm hx hy (by omega) (by omega)).symm
      · skip
        try simp only [Bool.and_true, Bool.true_and, decide_eq_true_eq, decide_eq_false_iff_not, Bool.and_eq_true, Bool.or_eq_true, Bool.and_eq_false_iff, Bool.or_eq_false_iff, Bool.not_eq_true', Bool.not_eq_false', beq_iff_eq, beq_eq_false_iff_ne, Int.not_lt, Int.not_le] at h36
        refine St.skip ?_
        refine St.then_normal ?_
        refine St.seq ?_
        refine St.seq ?_
        refine St.rg ?_
        refine St.ev _ (Ev.ldbA (Opd.mk rfl) Try.underlying49 trivial (by exact sz49)) rfl ?_
        refine St.ev _ (Ev.ldbA (Opd.mk rfl) Try.underlying49 trivial (by exact sz49)) rfl ?_
        refine St.ev _ (Ev.call (WideLess_spec _ _) cb33 (Opds.cons (Opd.mk rfl) (Opds.cons (Opd.mk rfl) Opds.nil))) rfl ?_
        refine St.nil ?_
        refine St.then_normal ?_
        refine St.cond _ rfl (fun h39 => ?_) (fun h39 => ?_)
        · skip
          try simp only [Bool.and_true, Bool.true_and, decide_eq_true_eq, decide_eq_false_iff_not, Bool.and_eq_true, Bool.or_eq_true, Bool.and_eq_false_iff, Bool.or_eq_false_iff, Bool.not_eq_true', Bool.not_eq_false', beq_iff_eq, beq_eq_false_iff_ne, Int.not_lt, Int.not_le] at h39
          refine St.seq ?_
          refine St.rg ?_
          refine St.ev _ (Ev.assign (Opd.mk rfl)) rfl ?_
          refine St.nil ?_
          refine St.then_normal ?_
          refine St.rett ?_
          refine St.then_ret ?_
          refine St.rets [_] [] Try.results15 ⟨rfl, trivial⟩ ?_ (fun _ hw => hw.sub)
          refine ie ?_
          first | rw [frCmp_mm hx hy (by omega) (by omega)] | rw [frCmp_pp hx hy (by omega) (by omega)]
          generalize x.1.natAbs * y.2.toNat = A at *
          generalize y.1.natAbs * x.2.toNat = C at *
          split <;> (try split) <;> omega
        · skip
          try simp only [Bool.and_true, Bool.true_and, decide_eq_true_eq, decide_eq_false_iff_not, Bool.and_eq_true, Bool.or_eq_true, Bool.and_eq_false_iff, Bool.or_eq_false_iff, Bool.not_eq_true', Bool.not_eq_false', beq_iff_eq, beq_eq_false_iff_ne, Int.not_lt, Int.not_le] at h39
          refine St.skip ?_
          refine St.then_normal ?_
          refine St.seq ?_
          refine St.seq ?_
          refine St.rg ?_
          refine St.ev _ (Ev.ldbA (Opd.mk rfl) Try.underlying49 trivial (by exact sz49)) rfl ?_
          refine St.ev _ (Ev.ldbA (Opd.mk rfl) Try.underlying49 trivial (by exact sz49)) rfl ?_
          refine St.ev _ (Ev.structeql (Opd.mk rfl) (Opd.mk rfl) Try.eqGuardType49 (fun w => eqf49 _ _ _ _ w)) rfl ?_
          refine St.nil ?_
          refine St.then_normal ?_
          refine St.cond _ rfl (fun h42 => ?_) (fun h42 => ?_)
          · skip
            try simp only [Bool.and_true, Bool.true_and, decide_eq_true_eq, decide_eq_false_iff_not, Bool.and_eq_true, Bool.or_eq_true, Bool.and_eq_false_iff, Bool.or_eq_false_iff, Bool.not_eq_true', Bool.not_eq_false', beq_iff_eq, beq_eq_false_iff_ne, Int.not_lt, Int.not_le] at h42
            refine St.seq ?_
            refine St.rg ?_
            refine St.ev _ (Ev.assign (Opd.mk rfl)) rfl ?_
            refine St.nil ?_
            refine St.then_normal ?_
            refine St.rett ?_
            refine St.then_ret ?_
            refine St.rets [_] [] Try.results15 ⟨rfl, trivial⟩ ?_ (fun _ hw => hw.sub)
            refine ie ?_
            first | rw [frCmp_mm hx hy (by omega) (by omega)] | rw [frCmp_pp hx hy (by omega) (by omega)]
            generalize x.1.natAbs * y.2.toNat = A at *
            generalize y.1.natAbs * x.2.toNat = C at *
            split <;> (try split) <;> omega
          · skip
            try simp only [Bool.and_true, Bool.true_and, decide_eq_true_eq, decide_eq_false_iff_not, Bool.and_eq_true, Bool.or_eq_true, Bool.and_eq_false_iff, Bool.or_eq_false_iff, Bool.not_eq_true', Bool.not_eq_false', beq_iff_eq, beq_eq_false_iff_ne, Int.not_lt, Int.not_le] at h42
            refine St.skip ?_
            refine St.then_normal ?_
            refine St.seq ?_
            refine St.rg ?_
            refine St.ev _ (Ev.assign (Opd.mk rfl)) rfl ?_
            refine St.nil ?_
            refine St.then_normal ?_
            refine St.rett ?_
            refine St.rets [_] [] Try.results15 ⟨rfl, trivial⟩ ?_ (fun _ hw => hw.sub)
            refine ie ?_
            first | rw [frCmp_mm hx hy (by omega) (by omega)] | rw [frCmp_pp hx hy (by omega) (by omega)]
            generalize x.1.natAbs * y.2.toNat = A at *
            generalize y.1.natAbs * x.2.toNat = C at *
            split <;> (try split) <;> omega

theorem fracReady_spec : FnV Try.prog 10 #[] [] (.bool true) := by
  refine FnV.body0 (args := []) 50 Try.func10 rfl Try.ntmps10 rfl (fun c => ?_)
  refine St.seq ?_
  refine St.rg ?_
  refine St.ev _ (Ev.assign (Opd.mk rfl)) rfl ?_
  refine St.nil ?_
  refine St.then_normal ?_
  refine St.seq ?_
  refine St.rg ?_
  refine St.ev _ (Ev.build (ps := [(0, (Operand.const (Value.int IntKind.i64 1))), (1, (Operand.const (Value.int IntKind.i64 2)))]) (Opds.cons (Opd.mk rfl) (Opds.cons (Opd.mk rfl) Opds.nil)) (fun w => bld24_0_1 rfl rfl w)) rfl ?_
  refine St.ev _ (Ev.build (ps := [(0, (Operand.const (Value.int IntKind.i64 1))), (1, (Operand.const (Value.int IntKind.i64 3)))]) (Opds.cons (Opd.mk rfl) (Opds.cons (Opd.mk rfl) Opds.nil)) (fun w => bld24_0_1 rfl rfl w)) rfl ?_
  refine St.ev _ (Ev.call (Add_spec (1, 2) (1, 3) (by unfold prOk i64ok; decide) (by unfold prOk i64ok; decide)) cb16 (Opds.cons (Opd.mk rfl) (Opds.cons (Opd.mk rfl) Opds.nil))) rfl ?_
  refine St.slot 10 (.tuple #[fv (5, 6), fv (0, 0)]) rfl (by kernel_rfl) ?_
  refine St.ev _ (Ev.move (Opd.mk rfl)) rfl ?_
  refine St.ev _ (Ev.extract (Opd.mk rfl) rfl) rfl ?_
  refine St.ev _ (Ev.extract (Opd.mk rfl) rfl) rfl ?_
  refine St.alloc zc24 rfl (fun b1 => ?_)
  refine St.alloc zc26 rfl (fun b2 => ?_)
  refine St.storeA (Opd.mk rfl) (Opd.mk rfl) sz24 (by first | simp only [List.length_cons, List.length_nil] | rfl) rfl ?_
  refine St.storeA (Opd.mk rfl) (Opd.mk rfl) sz26 (by first | simp only [List.length_cons, List.length_nil] | rfl) rfl ?_
  refine St.nil ?_
  refine St.then_normal ?_
  refine St.seq ?_
  refine St.rg ?_
  refine St.ev _ (Ev.call (Make_spec 4 (-6) (by unfold i64ok; decide) (by unfold i64ok; decide)) cb11 (Opds.cons (Opd.mk rfl) (Opds.cons (Opd.mk rfl) Opds.nil))) rfl ?_
  refine St.slot 14 (.tuple #[fv (-2, 3), fv (0, 0)]) rfl (by kernel_rfl) ?_
  refine St.ev _ (Ev.move (Opd.mk rfl)) rfl ?_
  refine St.ev _ (Ev.extract (Opd.mk rfl) rfl) rfl ?_
  refine St.ev _ (Ev.extract (Opd.mk rfl) rfl) rfl ?_
  refine St.alloc zc24 rfl (fun b3 => ?_)
  refine St.alloc zc26 rfl (fun b4 => ?_)
  refine St.storeA (Opd.mk rfl) (Opd.mk rfl) sz24 (by first | simp only [List.length_cons, List.length_nil] | rfl) rfl ?_
  refine St.storeA (Opd.mk rfl) (Opd.mk rfl) sz26 (by first | simp only [List.length_cons, List.length_nil] | rfl) rfl ?_
  refine St.nil ?_
  refine St.then_normal ?_
  refine St.seq ?_
  refine St.rg ?_
  refine St.ev _ (Ev.build (ps := [(0, (Operand.const (Value.int IntKind.i64 (-1)))), (1, (Operand.const (Value.int IntKind.i64 2)))]) (Opds.cons (Opd.mk rfl) (Opds.cons (Opd.mk rfl) Opds.nil)) (fun w => bld24_0_1 rfl rfl w)) rfl ?_
  refine St.ev _ (Ev.build (ps := [(0, (Operand.const (Value.int IntKind.i64 (-1)))), (1, (Operand.const (Value.int IntKind.i64 3)))]) (Opds.cons (Opd.mk rfl) (Opds.cons (Opd.mk rfl) Opds.nil)) (fun w => bld24_0_1 rfl rfl w)) rfl ?_
  refine St.ev _ (Ev.call (Compare_spec (-1, 2) (-1, 3) (by unfold prOk i64ok; decide) (by unfold prOk i64ok; decide)) cb13 (Opds.cons (Opd.mk rfl) (Opds.cons (Opd.mk rfl) Opds.nil))) rfl ?_
  refine St.slot 20 (.tuple #[iv (-1), fv (0, 0)]) rfl (by kernel_rfl) ?_
  refine St.ev _ (Ev.move (Opd.mk rfl)) rfl ?_
  refine St.ev _ (Ev.extract (Opd.mk rfl) rfl) rfl ?_
  refine St.ev _ (Ev.extract (Opd.mk rfl) rfl) rfl ?_
  refine St.alloc zc26 rfl (fun b6 => ?_)
  refine St.ev _ (Ev.assign (Opd.mk rfl)) rfl ?_
  refine St.storeA (Opd.mk rfl) (Opd.mk rfl) sz26 (by first | simp only [List.length_cons, List.length_nil] | rfl) rfl ?_
  refine St.nil ?_
  refine St.then_normal ?_
  refine St.seq ?_
  refine St.rg ?_
  refine St.ev _ (Ev.fldb0 (Opd.mk rfl) fo26_0) rfl ?_
  refine St.ev _ (Ev.ldb (Opd.mk rfl) Try.underlying3 trivial (by rfl)) rfl ?_
  refine St.ev _ (Ev.eql (Opd.mk rfl) (Opd.mk rfl)) rfl ?_
  refine St.ev _ (Ev.move (Opd.mk rfl)) rfl ?_
  refine St.gt _ rfl rfl (fun hg => Ev.ldbA (Opd.mk rfl) Try.underlying24 trivial (by exact sz24)) rfl ?_
  refine St.gt _ rfl rfl (fun hg => Ev.build (ps := [(0, (Operand.const (Value.int IntKind.i64 5))), (1, (Operand.const (Value.int IntKind.i64 6)))]) (Opds.cons (Opd.mk rfl) (Opds.cons (Opd.mk rfl) Opds.nil)) (fun w => bld24_0_1 rfl rfl w)) rfl ?_
  refine St.gt _ rfl rfl (fun hg => Ev.structeql (Opd.gv rfl hg) (Opd.gv rfl hg) Try.eqGuardType24 (fun w => eqf24 _ _ _ _ w)) rfl ?_
  refine St.ev _ (Ev.and (Opd.mk rfl) (fun hp => Opd.gv rfl hp)) rfl ?_
  refine St.ev _ (Ev.move (Opd.mk rfl)) rfl ?_
  refine St.gt _ rfl rfl (fun hg => Ev.fldb0 (Opd.mk rfl) fo26_0) rfl ?_
  refine St.gt _ rfl rfl (fun hg => Ev.ldb (Opd.gv rfl hg) Try.underlying3 trivial (by rfl)) rfl ?_
  refine St.gt _ rfl rfl (fun hg => Ev.eql (Opd.gv rfl hg) (Opd.mk rfl)) rfl ?_
  refine St.ev _ (Ev.and (Opd.mk rfl) (fun hp => Opd.gv rfl hp)) rfl ?_
  refine St.ev _ (Ev.move (Opd.mk rfl)) rfl ?_
  refine St.gt _ rfl rfl (fun hg => Ev.ldbA (Opd.mk rfl) Try.underlying24 trivial (by exact sz24)) rfl ?_
  refine St.gt _ rfl rfl (fun hg => Ev.build (ps := [(0, (Operand.const (Value.int IntKind.i64 (-2)))), (1, (Operand.const (Value.int IntKind.i64 3)))]) (Opds.cons (Opd.mk rfl) (Opds.cons (Opd.mk rfl) Opds.nil)) (fun w => bld24_0_1 rfl rfl w)) rfl ?_
  refine St.gt _ rfl rfl (fun hg => Ev.structeql (Opd.gv rfl hg) (Opd.gv rfl hg) Try.eqGuardType24 (fun w => eqf24 _ _ _ _ w)) rfl ?_
  refine St.ev _ (Ev.and (Opd.mk rfl) (fun hp => Opd.gv rfl hp)) rfl ?_
  refine St.ev _ (Ev.move (Opd.mk rfl)) rfl ?_
  refine St.gt _ rfl rfl (fun hg => Ev.fldb0 (Opd.mk rfl) fo26_0) rfl ?_
  refine St.gt _ rfl rfl (fun hg => Ev.ldb (Opd.gv rfl hg) Try.underlying3 trivial (by rfl)) rfl ?_
  refine St.gt _ rfl rfl (fun hg => Ev.eql (Opd.gv rfl hg) (Opd.mk rfl)) rfl ?_
  refine St.ev _ (Ev.and (Opd.mk rfl) (fun hp => Opd.gv rfl hp)) rfl ?_
  refine St.ev _ (Ev.move (Opd.mk rfl)) rfl ?_
  refine St.gt _ rfl rfl (fun hg => Ev.move (Opd.mk rfl)) rfl ?_
  refine St.gt _ rfl rfl (fun hg => Ev.eql (Opd.gv rfl hg) (Opd.mk rfl)) rfl ?_
  refine St.ev _ (Ev.and (Opd.mk rfl) (fun hp => Opd.gv rfl hp)) rfl ?_
  refine St.ev _ (Ev.assign (Opd.mk rfl)) rfl ?_
  refine St.nil ?_
  refine St.then_normal ?_
  refine St.rett ?_
  refine St.rets [_] [] Try.results10 ⟨rfl, trivial⟩ ?_ (fun _ hw => hw.sub)
  exact be (by decide)

def fracR : Rp Pr := ⟨2, by decide, fun x => [iv x.1, iv x.2], prOk, fun _ => rfl, fun _ u h => by simp at h; rcases h with rfl | rfl <;> rfl⟩
instance (x : Pr) : Cel fracR x [iv x.1, iv x.2] := ⟨rfl⟩
def frChk : Int → List Pr → Pr
  | _, [] => (0, 0)
  | k, x :: l => if (frBad x.1 x.2 k).1 = 0 then frChk (k + 1) l else frBad x.1 x.2 k
def frFold : Int → Pr → List Pr → Pr × Pr
  | _, s, [] => (s, (0, 0))
  | k, s, x :: l => if (frAdd s x).2.1 = 0 then frFold (k + 1) (frAdd s x).1 l else ((0, 0), ((frAdd s x).2.1, k))
def frSum (l : List Pr) : Pr × Pr := if 300 < l.length then ((0, 0), (2, -1)) else if (frChk 0 l).1 = 0 then frFold 0 (0, 1) l else ((0, 0), frChk 0 l)
theorem frChk_step {l : List Pr} {k : Nat} {p : Pr} (h : l[k]? = some p) : frChk k (l.drop k) = if (frBad p.1 p.2 k).1 = 0 then frChk ((k + 1 : Nat) : Int) (l.drop (k + 1)) else frBad p.1 p.2 k := by
  rw [drop_of_some h, frChk, Int.natCast_add]; rfl
theorem frFold_step {l : List Pr} {k : Nat} {s p : Pr} (h : l[k]? = some p) : frFold k s (l.drop k) = if (frAdd s p).2.1 = 0 then frFold ((k + 1 : Nat) : Int) (frAdd s p).1 (l.drop (k + 1)) else ((0, 0), ((frAdd s p).2.1, (k : Int))) := by
  rw [drop_of_some h, frFold, Int.natCast_add]; rfl
theorem frChk_all : ∀ {l : List Pr} {k : Int}, (frChk k l).1 = 0 → ∀ p ∈ l, Fr1 p
  | [], _, _, p, hp => by cases hp
  | x :: l, k, h, p, hp => by
    unfold frChk at h
    by_cases h1 : (frBad x.1 x.2 k).1 = 0
    · rw [if_pos h1] at h
      rcases List.mem_cons.1 hp with rfl | hp
      · exact frBad_iff.1 h1
      · exact frChk_all h p hp
    · rw [if_neg h1] at h; exact absurd h h1
theorem one_ok : Fr1 (0, 1) := ⟨by decide, by decide, by decide, by decide, rfl⟩
theorem frSum_big {l : List Pr} (h : 300 < l.length) : frSum l = ((0, 0), (2, -1)) := by unfold frSum; rw [if_pos h]
theorem frSum_bad {l : List Pr} (h : ¬ 300 < l.length) {f : Pr} (h2 : frChk 0 l = f) (h3 : f.1 ≠ 0) : frSum l = ((0, 0), f) := by unfold frSum; rw [if_neg h, h2, if_neg h3]
theorem frSum_fold {l : List Pr} (h : ¬ 300 < l.length) (h2 : (frChk 0 l).1 = 0) : frSum l = frFold 0 (0, 1) l := by unfold frSum; rw [if_neg h, if_pos h2]
theorem frChk_end {l : List Pr} {k : Nat} (h : l.length ≤ k) (k' : Int) : frChk k' (l.drop k) = (0, 0) := by rw [List.drop_of_length_le h]; rfl
theorem frFold_end {l : List Pr} {k : Nat} (h : l.length ≤ k) (k' : Int) (s : Pr) : frFold k' s (l.drop k) = (s, (0, 0)) := by rw [List.drop_of_length_le h]; rfl
theorem fr3c {r : Pr × Pr} {a b k : Int} (h : r = ((0, 0), (a, k))) (hb : b = k) : ret1 [.agg #[iv 0, iv 0], .agg #[iv a, iv b]] = frR r := by rw [h, hb]; rfl
theorem fr3d {r : Pr × Pr} {s : Pr} (h : r = (s, (0, 0))) : ret1 [.agg #[iv s.1, iv s.2], .agg #[iv 0, iv 0]] = frR r := by rw [h]; rfl

theorem Sum_spec (v0 : Value) (l : List Pr) : FnV Try.prog 18 #[v0] [sl fracR v0 l] (frR (frSum l)) := by
  refine FnV.body1 (args := [v0]) 59 Try.func18 rfl Try.ntmps18 rfl (fun c => ?_)
  refine St.seq ?_
  refine St.wf v0 (fun hwf hlen => ?_)
  refine St.rg ?_
  refine St.alloc zc24 rfl (fun b2 => ?_)
  refine St.alloc zc26 rfl (fun b3 => ?_)
  refine St.nil ?_
  refine St.then_normal ?_
  refine St.seq ?_
  refine St.seq ?_
  refine St.rg ?_
  refine St.ev _ (Ev.move (Opd.mk rfl)) rfl ?_
  refine St.ev _ (Ev.lensl (Opd.mk rfl) Try.underlying37) rfl ?_
  refine St.ev _ (Ev.gtr (Opd.mk rfl) (Opd.mk rfl)) rfl ?_
  refine St.nil ?_
  refine St.then_normal ?_
  refine St.cond _ rfl (fun h14 => ?_) (fun h14 => ?_)
  · skip
    try simp only [Bool.and_true, Bool.true_and, decide_eq_true_eq, decide_eq_false_iff_not, Bool.and_eq_true, Bool.or_eq_true, Bool.and_eq_false_iff, Bool.or_eq_false_iff, Bool.not_eq_true', Bool.not_eq_false', beq_iff_eq, beq_eq_false_iff_ne, Int.not_lt, Int.not_le] at h14
    refine St.seq ?_
    refine St.rg ?_
    refine St.ev _ (Ev.build (ps := []) (Opds.nil) (fun w => bld24_  w)) rfl ?_
    refine St.ev _ (Ev.build (ps := [(0, (Operand.const (Value.int IntKind.i64 2))), (1, (Operand.const (Value.int IntKind.i64 (-1))))]) (Opds.cons (Opd.mk rfl) (Opds.cons (Opd.mk rfl) Opds.nil)) (fun w => bld26_0_1 rfl rfl w)) rfl ?_
    refine St.storeA (Opd.mk rfl) (Opd.mk rfl) sz24 (by first | simp only [List.length_cons, List.length_nil] | rfl) rfl ?_
    refine St.storeA (Opd.mk rfl) (Opd.mk rfl) sz26 (by first | simp only [List.length_cons, List.length_nil] | rfl) rfl ?_
    refine St.nil ?_
    refine St.then_normal ?_
    refine St.rett ?_
    refine St.then_ret ?_
    refine St.rets [_, _] [] Try.results18 ⟨⟨_, _, _, _, rfl, InB.mem, .inl ⟨⟨_, Try.underlying24⟩, sz24, rfl⟩⟩, ⟨⟨_, _, _, _, rfl, InB.mem, .inl ⟨⟨_, Try.underlying26⟩, sz26, rfl⟩⟩, trivial⟩⟩ ?_ (fun _ hw => hw.sub)
    exact fr3e (frSum_big (by omega))
  · skip
    try simp only [Bool.and_true, Bool.true_and, decide_eq_true_eq, decide_eq_false_iff_not, Bool.and_eq_true, Bool.or_eq_true, Bool.and_eq_false_iff, Bool.or_eq_false_iff, Bool.not_eq_true', Bool.not_eq_false', beq_iff_eq, beq_eq_false_iff_ne, Int.not_lt, Int.not_le] at h14
    refine St.skip ?_
    refine St.then_normal ?_
    refine St.seq ?_
    refine St.seq ?_
    refine St.rg ?_
    refine St.ev _ (Ev.move (Opd.mk rfl)) rfl ?_
    refine St.ev _ (Ev.lensl (Opd.mk rfl) Try.underlying37) rfl ?_
    refine St.ev _ (Ev.move (Opd.mk rfl)) rfl ?_
    refine St.nil ?_
    refine St.then_normal ?_
    refine St.block ?_
    refine St.loopH (ι := Nat) (fun k T => (19, iv k) :: T) (fun k => [blk b2 (.cells #[iv 0, iv 0] 24 (0, 0)), blk b3 (.cells #[iv 0, iv 0] 26 (0, 0)), dat (sl fracR v0 l)]) (fun k => k ≤ l.length ∧ frChk 0 l = frChk k (l.drop k)) (fun k => l.length - k) 0 (Keep.cons 0 rfl (Keep.cons 2 rfl (Keep.cons 3 rfl (Keep.cons 17 rfl (Keep.cons 18 rfl Keep.nil))))) ⟨Nat.zero_le _, rfl⟩ (by repeat (first | exact Sub.nil | refine Sub.cons (by first | rfl | exact congrArg (fun z => some (iv z)) (by omega) | exact congrArg (fun z => some (Value.bool z)) (by first | assumption | exact Eq.symm (by assumption))) ?_)) (fun _ hw => hw.sub) ?_
    intro k hphi
    obtain ⟨hk, hc⟩ := hphi
    refine St.seq ?_
    refine St.rg ?_
    refine St.ev _ (Ev.lss (Opd.mk rfl) (Opd.mk rfl)) rfl ?_
    refine St.nil ?_
    refine St.then_normal ?_
    refine St.seq ?_
    refine St.cond _ rfl (fun h20 => ?_) (fun h20 => ?_)
    · skip
      try simp only [Bool.and_true, Bool.true_and, decide_eq_true_eq, decide_eq_false_iff_not, Bool.and_eq_true, Bool.or_eq_true, Bool.and_eq_false_iff, Bool.or_eq_false_iff, Bool.not_eq_true', Bool.not_eq_false', beq_iff_eq, beq_eq_false_iff_ne, Int.not_lt, Int.not_le] at h20
      obtain ⟨p, hp⟩ := some_of_lt (show k < l.length by omega)
      have hw := hwf p (List.mem_of_getElem? hp)
      have hw' : prOk p := hw
      refine St.skip ?_
      refine St.then_normal ?_
      refine St.seq ?_
      refine St.block ?_
      refine St.seq ?_
      refine St.rg ?_
      refine St.ev _ (Ev.move (Opd.mk rfl)) rfl ?_
      refine St.ev _ (Ev.idxaddr  (Opd.mk rfl) (Opd.mk rfl) Try.underlying37 sz24 rfl (by omega)) rfl ?_
      refine St.ev _ (Ev.ldA (Opd.mk rfl) (by first | assumption | exact some_getD default (by omega)) Try.underlying24 trivial sz24 Cel.eq) rfl ?_
      refine St.alloc zc24 rfl (fun b5 => ?_)
      refine St.ev _ (Ev.assign (Opd.mk rfl)) rfl ?_
      refine St.storeA (Opd.mk rfl) (Opd.mk rfl) sz24 (by first | simp only [List.length_cons, List.length_nil] | rfl) rfl ?_
      refine St.nil ?_
      refine St.then_normal ?_
      refine St.seq ?_
      refine St.rg ?_
      refine St.ev _ (Ev.ldbA (Opd.mk rfl) Try.underlying24 trivial (by exact sz24)) rfl ?_
      refine St.ev _ (Ev.move (Opd.mk rfl)) rfl ?_
      refine St.ev _ (Ev.call (check_spec p.1 p.2 k hw'.1 hw'.2) cb36 (Opds.cons (Opd.mk rfl) (Opds.cons (Opd.mk rfl) Opds.nil))) rfl ?_
      refine St.alloc zc26 rfl (fun b6 => ?_)
      refine St.storeA (Opd.mk rfl) (Opd.mk rfl) sz26 (by first | simp only [List.length_cons, List.length_nil] | rfl) rfl ?_
      refine St.nil ?_
      refine St.then_normal ?_
      refine St.seq ?_
      refine St.rg ?_
      refine St.ev _ (Ev.fldb0 (Opd.mk rfl) fo26_0) rfl ?_
      refine St.ev _ (Ev.ldb (Opd.mk rfl) Try.underlying3 trivial (by rfl)) rfl ?_
      refine St.ev _ (Ev.neq (Opd.mk rfl) (Opd.mk rfl)) rfl ?_
      refine St.nil ?_
      refine St.then_normal ?_
      refine St.cond _ rfl (fun h29 => ?_) (fun h29 => ?_)
      · skip
        try simp only [Bool.and_true, Bool.true_and, decide_eq_true_eq, decide_eq_false_iff_not, Bool.and_eq_true, Bool.or_eq_true, Bool.and_eq_false_iff, Bool.or_eq_false_iff, Bool.not_eq_true', Bool.not_eq_false', beq_iff_eq, beq_eq_false_iff_ne, Int.not_lt, Int.not_le] at h29
        refine St.seq ?_
        refine St.par [b2, b3] mixed ?_
        refine SW.defer 0 (by repeat (first | refine NP.then ?_ | refine NP.inBlock ?_ | exact NP.body)) (by kernel_rfl) rfl (fun R => Ev.build (ps := []) (Opds.nil) (fun w => bld24_  w)) (by kernel_rfl) rfl ?_
        refine SW.defer 1 (by repeat (first | refine NP.then ?_ | refine NP.inBlock ?_ | exact NP.body)) (by kernel_rfl) rfl (fun R => Ev.ldbA (Opd.mk rfl) Try.underlying26 trivial (by exact sz26)) (by kernel_rfl) rfl ?_
        refine SW.turn1 (i := 2) (by kernel_rfl) rfl ?_
        refine St.storeA (Opd.mk rfl) (Opd.mk rfl) sz24 (by first | simp only [List.length_cons, List.length_nil] | rfl) rfl ?_
        refine St.nil ?_
        refine St.then_normal ?_
        refine SW.go ?_
        refine SW.turn1 (i := 3) (by kernel_rfl) rfl ?_
        refine St.storeA (Opd.mk rfl) (Opd.mk rfl) sz26 (by first | simp only [List.length_cons, List.length_nil] | rfl) rfl ?_
        refine St.nil ?_
        refine St.then_normal ?_
        refine SW.go ?_
        refine SW.done (by kernel_rfl) ?_
        refine St.then_normal ?_
        refine St.rett ?_
        refine St.in_ret ?_
        refine St.then_ret ?_
        refine St.then_ret ?_
        refine St.in_ret ?_
        refine St.then_ret ?_
        refine St.rets [_, _] [] Try.results18 ⟨⟨_, _, _, _, rfl, InB.mem, .inl ⟨⟨_, Try.underlying24⟩, sz24, rfl⟩⟩, ⟨⟨_, _, _, _, rfl, InB.mem, .inl ⟨⟨_, Try.underlying26⟩, sz26, rfl⟩⟩, trivial⟩⟩ ?_ (fun _ hw => hw.sub)
        exact fr3b (frSum_bad (by omega) (by rw [hc, frChk_step hp, if_neg h29]) h29)
      · skip
        try simp only [Bool.and_true, Bool.true_and, decide_eq_true_eq, decide_eq_false_iff_not, Bool.and_eq_true, Bool.or_eq_true, Bool.and_eq_false_iff, Bool.or_eq_false_iff, Bool.not_eq_true', Bool.not_eq_false', beq_iff_eq, beq_eq_false_iff_ne, Int.not_lt, Int.not_le] at h29
        refine St.skip ?_
        refine St.in_normal ?_
        refine St.then_normal ?_
        refine St.rg ?_
        refine St.ev _ (Ev.add (Opd.mk rfl) (Opd.mk rfl) (by omega)) rfl ?_
        refine St.ev _ (Ev.move (Opd.mk rfl)) rfl ?_
        refine St.nil ?_
        refine St.then_normal ?_
        refine St.againH (k + 1) ⟨by omega, by rw [hc, frChk_step hp, if_pos h29]⟩ (by first | omega | (dsimp only; omega)) (by repeat (first | exact Sub.nil | refine Sub.cons (by first | rfl | exact congrArg (fun z => some (iv z)) (by omega) | exact congrArg (fun z => some (Value.bool z)) (by first | assumption | exact Eq.symm (by assumption))) ?_)) (fun _ hw => hw.sub)
    · skip
      try simp only [Bool.and_true, Bool.true_and, decide_eq_true_eq, decide_eq_false_iff_not, Bool.and_eq_true, Bool.or_eq_true, Bool.and_eq_false_iff, Bool.or_eq_false_iff, Bool.not_eq_true', Bool.not_eq_false', beq_iff_eq, beq_eq_false_iff_ne, Int.not_lt, Int.not_le] at h20
      refine St.exit ?_
      refine St.then_exit ?_
      refine St.then_exit ?_
      refine St.in_hit ?_
      refine St.then_normal ?_
      refine St.seq ?_
      refine St.rg ?_
      refine St.ev _ (Ev.build (ps := [(1, (Operand.const (Value.int IntKind.i64 1)))]) (Opds.cons (Opd.mk rfl) Opds.nil) (fun w => bld24_1 rfl w)) rfl ?_
      refine St.alloc zc24 rfl (fun b7 => ?_)
      refine St.storeA (Opd.mk rfl) (Opd.mk rfl) sz24 (by first | simp only [List.length_cons, List.length_nil] | rfl) rfl ?_
      refine St.nil ?_
      refine St.then_normal ?_
      refine St.seq ?_
      refine St.seq ?_
      refine St.rg ?_
      refine St.ev _ (Ev.move (Opd.mk rfl)) rfl ?_
      refine St.ev _ (Ev.lensl (Opd.mk rfl) Try.underlying37) rfl ?_
      refine St.ev _ (Ev.move (Opd.mk rfl)) rfl ?_
      refine St.nil ?_
      refine St.then_normal ?_
      refine St.block ?_
      have hall := frChk_all (l := l) (k := 0) (by rw [hc, frChk_end (by omega)])
      have hfs := frSum_fold (l := l) (by omega) (by rw [hc, frChk_end (by omega)])
      refine St.loopH (ι := Nat × Pr) (fun x T => (36, iv x.1) :: T) (fun x => [blk b2 (.cells #[iv 0, iv 0] 24 (0, 0)), blk b3 (.cells #[iv 0, iv 0] 26 (0, 0)), blk b7 (.cells #[iv x.2.1, iv x.2.2] 24 (0, 0)), dat (sl fracR v0 l)]) (fun x => x.1 ≤ l.length ∧ Fr1 x.2 ∧ frFold 0 (0, 1) l = frFold x.1 x.2 (l.drop x.1)) (fun x => l.length - x.1) (0, (0, 1)) (Keep.cons 2 rfl (Keep.cons 3 rfl (Keep.cons 7 rfl (Keep.cons 34 rfl (Keep.cons 35 rfl Keep.nil))))) ⟨Nat.zero_le _, one_ok, rfl⟩ (by repeat (first | exact Sub.nil | refine Sub.cons (by first | rfl | exact congrArg (fun z => some (iv z)) (by omega) | exact congrArg (fun z => some (Value.bool z)) (by first | assumption | exact Eq.symm (by assumption))) ?_)) (fun _ hw => hw.sub) ?_
      intro x hphi
      obtain ⟨hk2, hs, hf⟩ := hphi
      refine St.seq ?_
      refine St.rg ?_
      refine St.ev _ (Ev.lss (Opd.mk rfl) (Opd.mk rfl)) rfl ?_
      refine St.nil ?_
      refine St.then_normal ?_
      refine St.seq ?_
      refine St.cond _ rfl (fun h37 => ?_) (fun h37 => ?_)
      · skip
        try simp only [Bool.and_true, Bool.true_and, decide_eq_true_eq, decide_eq_false_iff_not, Bool.and_eq_true, Bool.or_eq_true, Bool.and_eq_false_iff, Bool.or_eq_false_iff, Bool.not_eq_true', Bool.not_eq_false', beq_iff_eq, beq_eq_false_iff_ne, Int.not_lt, Int.not_le] at h37
        obtain ⟨p, hp⟩ := some_of_lt (show x.1 < l.length by omega)
        have hpv := hall p (List.mem_of_getElem? hp)
        refine St.skip ?_
        refine St.then_normal ?_
        refine St.seq ?_
        refine St.block ?_
        refine St.seq ?_
        refine St.rg ?_
        refine St.ev _ (Ev.move (Opd.mk rfl)) rfl ?_
        refine St.ev _ (Ev.idxaddr (k := x.1) (Opd.mk rfl) (Opd.mk rfl) Try.underlying37 sz24 (by omega) (by omega)) rfl ?_
        refine St.ev _ (Ev.ldA (Opd.mk rfl) (by first | assumption | exact some_getD default (by omega)) Try.underlying24 trivial sz24 Cel.eq) rfl ?_
        refine St.alloc zc24 rfl (fun b9 => ?_)
        refine St.ev _ (Ev.assign (Opd.mk rfl)) rfl ?_
        refine St.storeA (Opd.mk rfl) (Opd.mk rfl) sz24 (by first | simp only [List.length_cons, List.length_nil] | rfl) rfl ?_
        refine St.nil ?_
        refine St.then_normal ?_
        refine St.seq ?_
        refine St.rg ?_
        refine St.ev _ (Ev.ldbA (Opd.mk rfl) Try.underlying24 trivial (by exact sz24)) rfl ?_
        refine St.ev _ (Ev.ldbA (Opd.mk rfl) Try.underlying24 trivial (by exact sz24)) rfl ?_
        refine St.ev _ (Ev.call (add_spec x.2 p hs hpv) cb34 (Opds.cons (Opd.mk rfl) (Opds.cons (Opd.mk rfl) Opds.nil))) rfl ?_
        refine St.ev _ (Ev.move (Opd.mk rfl)) rfl ?_
        refine St.ev _ (Ev.extract (Opd.mk rfl) rfl) rfl ?_
        refine St.ev _ (Ev.extract (Opd.mk rfl) rfl) rfl ?_
        refine St.alloc zc24 rfl (fun b10 => ?_)
        refine St.alloc zc26 rfl (fun b11 => ?_)
        refine St.storeA (Opd.mk rfl) (Opd.mk rfl) sz24 (by first | simp only [List.length_cons, List.length_nil] | rfl) rfl ?_
        refine St.storeA (Opd.mk rfl) (Opd.mk rfl) sz26 (by first | simp only [List.length_cons, List.length_nil] | rfl) rfl ?_
        refine St.nil ?_
        refine St.then_normal ?_
        refine St.seq ?_
        refine St.seq ?_
        refine St.rg ?_
        refine St.ev _ (Ev.fldb0 (Opd.mk rfl) fo26_0) rfl ?_
        refine St.ev _ (Ev.ldb (Opd.mk rfl) Try.underlying3 trivial (by rfl)) rfl ?_
        refine St.ev _ (Ev.neq (Opd.mk rfl) (Opd.mk rfl)) rfl ?_
        refine St.nil ?_
        refine St.then_normal ?_
        refine St.cond _ rfl (fun h49 => ?_) (fun h49 => ?_)
        · skip
          try simp only [Bool.and_true, Bool.true_and, decide_eq_true_eq, decide_eq_false_iff_not, Bool.and_eq_true, Bool.or_eq_true, Bool.and_eq_false_iff, Bool.or_eq_false_iff, Bool.not_eq_true', Bool.not_eq_false', beq_iff_eq, beq_eq_false_iff_ne, Int.not_lt, Int.not_le] at h49
          refine St.seq ?_
          refine St.par [b2, b3] mixed ?_
          refine SW.defer 0 (by repeat (first | refine NP.then ?_ | refine NP.inBlock ?_ | exact NP.body)) (by kernel_rfl) rfl (fun R => Ev.build (ps := []) (Opds.nil) (fun w => bld24_  w)) (by kernel_rfl) rfl ?_
          refine SW.defer 1 (by repeat (first | refine NP.then ?_ | refine NP.inBlock ?_ | exact NP.body)) (by kernel_rfl) rfl (fun R => Ev.fldb0 (Opd.mk rfl) fo26_0) (by kernel_rfl) rfl ?_
          refine SW.defer 2 (by repeat (first | refine NP.then ?_ | refine NP.inBlock ?_ | exact NP.body)) (by kernel_rfl) rfl (fun R => Ev.ldb (Opd.mk rfl) Try.underlying3 trivial (by rfl)) (by kernel_rfl) rfl ?_
          refine SW.defer 3 (by repeat (first | refine NP.then ?_ | refine NP.inBlock ?_ | exact NP.body)) (by kernel_rfl) rfl (fun R => Ev.move (Opd.mk rfl)) (by kernel_rfl) rfl ?_
          refine SW.defer 4 (by repeat (first | refine NP.then ?_ | refine NP.inBlock ?_ | exact NP.body)) (by kernel_rfl) rfl (fun R => Ev.build (ps := [(0, (Operand.tmp 52)), (1, (Operand.tmp 53))]) (Opds.cons (Opd.mk rfl) (Opds.cons (Opd.mk rfl) Opds.nil)) (fun w => bld26_0_1 rfl rfl w)) (by kernel_rfl) rfl ?_
          refine SW.turn1 (i := 5) (by kernel_rfl) rfl ?_
          refine St.storeA (Opd.mk rfl) (Opd.mk rfl) sz24 (by first | simp only [List.length_cons, List.length_nil] | rfl) rfl ?_
          refine St.nil ?_
          refine St.then_normal ?_
          refine SW.go ?_
          refine SW.turn1 (i := 6) (by kernel_rfl) rfl ?_
          refine St.storeA (Opd.mk rfl) (Opd.mk rfl) sz26 (by first | simp only [List.length_cons, List.length_nil] | rfl) rfl ?_
          refine St.nil ?_
          refine St.then_normal ?_
          refine SW.go ?_
          refine SW.done (by kernel_rfl) ?_
          refine St.then_normal ?_
          refine St.rett ?_
          refine St.then_ret ?_
          refine St.in_ret ?_
          refine St.then_ret ?_
          refine St.then_ret ?_
          refine St.in_ret ?_
          refine St.then_ret ?_
          refine St.rets [_, _] [] Try.results18 ⟨⟨_, _, _, _, rfl, InB.mem, .inl ⟨⟨_, Try.underlying24⟩, sz24, rfl⟩⟩, ⟨⟨_, _, _, _, rfl, InB.mem, .inl ⟨⟨_, Try.underlying26⟩, sz26, rfl⟩⟩, trivial⟩⟩ ?_ (fun _ hw => hw.sub)
          exact fr3c (by rw [hfs, hf, frFold_step hp, if_neg h49]) rfl
        · skip
          try simp only [Bool.and_true, Bool.true_and, decide_eq_true_eq, decide_eq_false_iff_not, Bool.and_eq_true, Bool.or_eq_true, Bool.and_eq_false_iff, Bool.or_eq_false_iff, Bool.not_eq_true', Bool.not_eq_false', beq_iff_eq, beq_eq_false_iff_ne, Int.not_lt, Int.not_le] at h49
          have hok : Fr1 (frAdd x.2 p).1 := by rcases frAdd_ok hs hpv with h | h; exact h.1; rw [h] at h49; simp at h49
          refine St.skip ?_
          refine St.then_normal ?_
          refine St.rg ?_
          refine St.ev _ (Ev.ldbA (Opd.mk rfl) Try.underlying24 trivial (by exact sz24)) rfl ?_
          refine St.storeA (Opd.mk rfl) (Opd.mk rfl) sz24 (by first | simp only [List.length_cons, List.length_nil] | rfl) rfl ?_
          refine St.nil ?_
          refine St.in_normal ?_
          refine St.then_normal ?_
          refine St.rg ?_
          refine St.ev _ (Ev.add (Opd.mk rfl) (Opd.mk rfl) (by omega)) rfl ?_
          refine St.ev _ (Ev.move (Opd.mk rfl)) rfl ?_
          refine St.nil ?_
          refine St.then_normal ?_
          refine St.againH (x.1 + 1, (frAdd x.2 p).1) ⟨by dsimp only; omega, hok, by dsimp only; rw [hf, frFold_step hp, if_pos h49]⟩ (by first | omega | (dsimp only; omega)) (by repeat (first | exact Sub.nil | refine Sub.cons (by first | rfl | exact congrArg (fun z => some (iv z)) (by omega) | exact congrArg (fun z => some (Value.bool z)) (by first | assumption | exact Eq.symm (by assumption))) ?_)) (fun _ hw => hw.sub)
      · skip
        try simp only [Bool.and_true, Bool.true_and, decide_eq_true_eq, decide_eq_false_iff_not, Bool.and_eq_true, Bool.or_eq_true, Bool.and_eq_false_iff, Bool.or_eq_false_iff, Bool.not_eq_true', Bool.not_eq_false', beq_iff_eq, beq_eq_false_iff_ne, Int.not_lt, Int.not_le] at h37
        refine St.exit ?_
        refine St.then_exit ?_
        refine St.then_exit ?_
        refine St.in_hit ?_
        refine St.then_normal ?_
        refine St.seq ?_
        refine St.rg ?_
        refine St.ev _ (Ev.ldbA (Opd.mk rfl) Try.underlying24 trivial (by exact sz24)) rfl ?_
        refine St.ev _ (Ev.build (ps := []) (Opds.nil) (fun w => bld26_  w)) rfl ?_
        refine St.storeA (Opd.mk rfl) (Opd.mk rfl) sz24 (by first | simp only [List.length_cons, List.length_nil] | rfl) rfl ?_
        refine St.storeA (Opd.mk rfl) (Opd.mk rfl) sz26 (by first | simp only [List.length_cons, List.length_nil] | rfl) rfl ?_
        refine St.nil ?_
        refine St.then_normal ?_
        refine St.rett ?_
        refine St.rets [_, _] [] Try.results18 ⟨⟨_, _, _, _, rfl, InB.mem, .inl ⟨⟨_, Try.underlying24⟩, sz24, rfl⟩⟩, ⟨⟨_, _, _, _, rfl, InB.mem, .inl ⟨⟨_, Try.underlying26⟩, sz26, rfl⟩⟩, trivial⟩⟩ ?_ (fun _ hw => hw.sub)
        exact fr3d (by rw [hfs, hf, frFold_end (by omega)])

end Go.Proofs.Ytilpbgnlofoacaa
