/-
  The walks of the reference: what it says of fractions, as the plain facts say it.
  Conditions: the integers are integers of their types; where a sum or a comparison is asked, both fractions are valid.
-/
import Derived.Test.YtilpbgnlofoacaaW2
import Derived.Test.YtilpbgnlofoacaaFracR
set_option linter.unusedSimpArgs false
set_option linter.unusedVariables false
namespace Go.Proofs.Ytilpbgnlofoacaa
open Go Go.J

theorem Size_spec (z : Int) (hz : i64ok z) : FnV Try.prog 29 #[iv z] [] (uv z.natAbs) := by
  refine FnV.body0 (args := [iv z]) 10 Try.func29 rfl Try.ntmps29 rfl (fun c => ?_)
  refine St.seq ?_
  refine St.rg ?_
  refine St.ev _ (Ev.assign (Opd.mk rfl)) rfl ?_
  refine St.nil ?_
  refine St.then_normal ?_
  refine St.seq ?_
  refine St.seq ?_
  unfold i64ok at hz
  refine St.rg ?_
  refine St.ev _ (Ev.move (Opd.mk rfl)) rfl ?_
  refine St.ev _ (Ev.lss (Opd.mk rfl) (Opd.mk rfl)) rfl ?_
  refine St.nil ?_
  refine St.then_normal ?_
  refine St.cond _ rfl (fun h4 => ?_) (fun h4 => ?_)
  · skip
    try simp only [Bool.and_true, Bool.true_and, decide_eq_true_eq, decide_eq_false_iff_not, Bool.and_eq_true, Bool.or_eq_true, Bool.and_eq_false_iff, Bool.or_eq_false_iff, Bool.not_eq_true', Bool.not_eq_false', beq_iff_eq, beq_eq_false_iff_ne, Int.not_lt, Int.not_le] at h4
    refine St.seq ?_
    refine St.rg ?_
    refine St.ev _ (Ev.move (Opd.mk rfl)) rfl ?_
    refine St.ev _ (Ev.convIU (Opd.mk rfl) (by rw [Try.underlying3]; rfl) Try.underlying43) rfl ?_
    refine St.ev _ (Ev.subU (a := 0) (Opd.mk rfl) (Opd.mk rfl) (by omega)) rfl ?_
    refine St.ev _ (Ev.assign (Opd.mk rfl)) rfl ?_
    refine St.nil ?_
    refine St.then_normal ?_
    refine St.rett ?_
    refine St.then_ret ?_
    refine St.rets [_] [] Try.results29 ⟨rfl, trivial⟩ ?_ (fun _ hw => hw.sub)
    exact ue (by omega)
  · skip
    try simp only [Bool.and_true, Bool.true_and, decide_eq_true_eq, decide_eq_false_iff_not, Bool.and_eq_true, Bool.or_eq_true, Bool.and_eq_false_iff, Bool.or_eq_false_iff, Bool.not_eq_true', Bool.not_eq_false', beq_iff_eq, beq_eq_false_iff_ne, Int.not_lt, Int.not_le] at h4
    refine St.skip ?_
    refine St.then_normal ?_
    refine St.seq ?_
    refine St.rg ?_
    refine St.ev _ (Ev.move (Opd.mk rfl)) rfl ?_
    refine St.ev _ (Ev.convIN (z.natAbs) (Opd.mk rfl) (by rw [Try.underlying3]; rfl) Try.underlying43 (by omega)) rfl ?_
    refine St.ev _ (Ev.assign (Opd.mk rfl)) rfl ?_
    refine St.nil ?_
    refine St.then_normal ?_
    refine St.rett ?_
    refine St.rets [_] [] Try.results29 ⟨rfl, trivial⟩ ?_ (fun _ hw => hw.sub)
    exact ue (by omega)

theorem FracFault_spec (n d at_ : Int) (hn : i64ok n) (hd : i64ok d) : FnV Try.prog 19 #[.agg #[iv n, iv d], iv at_] [] (fv (frBad n d at_)) := by
  refine FnV.body0 (args := [.agg #[iv n, iv d], iv at_]) 41 Try.func19 rfl Try.ntmps19 rfl (fun c => ?_)
  refine St.seq ?_
  refine St.rg ?_
  refine St.boxA (Opd.mk rfl) rfl (fun b2 => ?_)
  refine St.alloc zc26 rfl (fun b4 => ?_)
  refine St.nil ?_
  refine St.then_normal ?_
  refine St.seq ?_
  refine St.seq ?_
  refine St.rg ?_
  refine St.ev _ (Ev.fldb0 (Opd.mk rfl) fo24_0) rfl ?_
  refine St.ev _ (Ev.ldb (Opd.mk rfl) Try.underlying3 trivial (by rfl)) rfl ?_
  refine St.ev _ (Ev.lss (Opd.mk rfl) (Opd.mk rfl)) rfl ?_
  refine St.ev _ (Ev.move (Opd.mk rfl)) rfl ?_
  refine St.gf _ rfl rfl (fun hg => Ev.fldb0 (Opd.mk rfl) fo24_0) rfl ?_
  refine St.gf _ rfl rfl (fun hg => Ev.ldb (Opd.gv rfl hg) Try.underlying3 trivial (by rfl)) rfl ?_
  refine St.gf _ rfl rfl (fun hg => Ev.gtr (Opd.gv rfl hg) (Opd.mk rfl)) rfl ?_
  refine St.ev _ (Ev.or (Opd.mk rfl) (fun hp => Opd.gv rfl hp)) rfl ?_
  refine St.ev _ (Ev.move (Opd.mk rfl)) rfl ?_
  refine St.gf _ rfl rfl (fun hg => Ev.fldb0 (Opd.mk rfl) fo24_1) rfl ?_
  refine St.gf _ rfl rfl (fun hg => Ev.ldb (Opd.gv rfl hg) Try.underlying3 trivial (by rfl)) rfl ?_
  refine St.gf _ rfl rfl (fun hg => Ev.lss (Opd.gv rfl hg) (Opd.mk rfl)) rfl ?_
  refine St.ev _ (Ev.or (Opd.mk rfl) (fun hp => Opd.gv rfl hp)) rfl ?_
  refine St.ev _ (Ev.move (Opd.mk rfl)) rfl ?_
  refine St.gf _ rfl rfl (fun hg => Ev.fldb0 (Opd.mk rfl) fo24_1) rfl ?_
  refine St.gf _ rfl rfl (fun hg => Ev.ldb (Opd.gv rfl hg) Try.underlying3 trivial (by rfl)) rfl ?_
  refine St.gf _ rfl rfl (fun hg => Ev.gtr (Opd.gv rfl hg) (Opd.mk rfl)) rfl ?_
  refine St.ev _ (Ev.or (Opd.mk rfl) (fun hp => Opd.gv rfl hp)) rfl ?_
  refine St.nil ?_
  refine St.then_normal ?_
  refine St.cond _ rfl (fun h23 => ?_) (fun h23 => ?_)
  · skip
    try simp only [Bool.and_true, Bool.true_and, decide_eq_true_eq, decide_eq_false_iff_not, Bool.and_eq_true, Bool.or_eq_true, Bool.and_eq_false_iff, Bool.or_eq_false_iff, Bool.not_eq_true', Bool.not_eq_false', beq_iff_eq, beq_eq_false_iff_ne, Int.not_lt, Int.not_le] at h23
    refine St.seq ?_
    refine St.rg ?_
    refine St.ev _ (Ev.move (Opd.mk rfl)) rfl ?_
    refine St.ev _ (Ev.build (ps := [(0, (Operand.const (Value.int IntKind.i64 3))), (1, (Operand.tmp 24))]) (Opds.cons (Opd.mk rfl) (Opds.cons (Opd.mk rfl) Opds.nil)) (fun w => bld26_0_1 rfl rfl w)) rfl ?_
    refine St.storeA (Opd.mk rfl) (Opd.mk rfl) sz26 (by first | simp only [List.length_cons, List.length_nil] | rfl) rfl ?_
    refine St.nil ?_
    refine St.then_normal ?_
    refine St.rett ?_
    refine St.then_ret ?_
    refine St.rets [_] [] Try.results19 ⟨⟨_, _, _, _, rfl, InB.mem, .inl ⟨⟨_, Try.underlying26⟩, sz26, rfl⟩⟩, trivial⟩ ?_ (fun _ hw => hw.sub)
    exact fe (by unfold frBad; rw [if_pos (by omega)])
  · skip
    try simp only [Bool.and_true, Bool.true_and, decide_eq_true_eq, decide_eq_false_iff_not, Bool.and_eq_true, Bool.or_eq_true, Bool.and_eq_false_iff, Bool.or_eq_false_iff, Bool.not_eq_true', Bool.not_eq_false', beq_iff_eq, beq_eq_false_iff_ne, Int.not_lt, Int.not_le] at h23
    unfold i64ok at hn hd
    refine St.skip ?_
    refine St.then_normal ?_
    refine St.seq ?_
    refine St.par [] mixed ?_
    refine SW.defer 0 (by repeat (first | refine NP.then ?_ | refine NP.inBlock ?_ | exact NP.body)) (by kernel_rfl) rfl (fun R => Ev.fldb0 (Opd.mk rfl) fo24_0) (by kernel_rfl) rfl ?_
    refine SW.defer 1 (by repeat (first | refine NP.then ?_ | refine NP.inBlock ?_ | exact NP.body)) (by kernel_rfl) rfl (fun R => Ev.ldb (Opd.mk rfl) Try.underlying3 trivial (by rfl)) (by kernel_rfl) rfl ?_
    refine SW.defer 2 (by repeat (first | refine NP.then ?_ | refine NP.inBlock ?_ | exact NP.body)) (by kernel_rfl) rfl (fun R => Ev.call (Size_spec n hn) cb29 (Opds.cons (Opd.mk rfl) Opds.nil)) (by kernel_rfl) rfl ?_
    refine SW.defer 3 (by repeat (first | refine NP.then ?_ | refine NP.inBlock ?_ | exact NP.body)) (by kernel_rfl) rfl (fun R => Ev.build (ps := [(0, (Operand.const (Value.int IntKind.u64 0))), (1, (Operand.tmp 28))]) (Opds.cons (Opd.mk rfl) (Opds.cons (Opd.mk rfl) Opds.nil)) (fun w => bld49_0_1 rfl rfl w)) (by kernel_rfl) rfl ?_
    refine SW.slot 29 (wv n.natAbs) rfl (wv_small (by omega)) ?_
    refine SW.defer 4 (by repeat (first | refine NP.then ?_ | refine NP.inBlock ?_ | exact NP.body)) (by kernel_rfl) rfl (fun R => Ev.fldb0 (Opd.mk rfl) fo24_1) (by kernel_rfl) rfl ?_
    refine SW.defer 5 (by repeat (first | refine NP.then ?_ | refine NP.inBlock ?_ | exact NP.body)) (by kernel_rfl) rfl (fun R => Ev.ldb (Opd.mk rfl) Try.underlying3 trivial (by rfl)) (by kernel_rfl) rfl ?_
    refine SW.defer 6 (by repeat (first | refine NP.then ?_ | refine NP.inBlock ?_ | exact NP.body)) (by kernel_rfl) rfl (fun R => Ev.convIN (d.toNat) (Opd.mk rfl) (by rw [Try.underlying3]; rfl) Try.underlying43 (by omega)) (by kernel_rfl) rfl ?_
    refine SW.defer 7 (by repeat (first | refine NP.then ?_ | refine NP.inBlock ?_ | exact NP.body)) (by kernel_rfl) rfl (fun R => Ev.build (ps := [(0, (Operand.const (Value.int IntKind.u64 0))), (1, (Operand.tmp 32))]) (Opds.cons (Opd.mk rfl) (Opds.cons (Opd.mk rfl) Opds.nil)) (fun w => bld49_0_1 rfl rfl w)) (by kernel_rfl) rfl ?_
    refine SW.slot 33 (wv d.toNat) rfl (wv_small (by omega)) ?_
    refine SW.defer 8 (by repeat (first | refine NP.then ?_ | refine NP.inBlock ?_ | exact NP.body)) (by kernel_rfl) rfl (fun R => Ev.call (WideGcd_spec n.natAbs d.toNat (by omega) (by omega)) cb37 (Opds.cons (Opd.mk rfl) (Opds.cons (Opd.mk rfl) Opds.nil))) (by kernel_rfl) rfl ?_
    refine SW.turn1 (i := 9) (by kernel_rfl) rfl ?_
    refine St.alloc zc49 rfl (fun b5 => ?_)
    refine St.nil ?_
    refine St.then_normal ?_
    refine SW.go ?_
    refine SW.turn1 (i := 10) (by kernel_rfl) rfl ?_
    refine St.storeA (Opd.mk rfl) (Opd.mk rfl) sz49 (by first | simp only [List.length_cons, List.length_nil] | rfl) rfl ?_
    refine St.nil ?_
    refine St.then_normal ?_
    refine SW.go ?_
    refine SW.done (by kernel_rfl) ?_
    refine St.then_normal ?_
    refine St.seq ?_
    refine St.seq ?_
    refine St.rg ?_
    refine St.ev _ (Ev.ldbA (Opd.mk rfl) Try.underlying49 trivial (by exact sz49)) rfl ?_
    refine St.ev _ (Ev.build (ps := [(0, (Operand.const (Value.int IntKind.u64 0))), (1, (Operand.const (Value.int IntKind.u64 1)))]) (Opds.cons (Opd.mk rfl) (Opds.cons (Opd.mk rfl) Opds.nil)) (fun w => bld49_0_1 rfl rfl w)) rfl ?_
    refine St.ev _ (Ev.structneq (Opd.mk rfl) (Opd.mk rfl) Try.eqGuardType49 (fun w => eqf49 _ _ _ _ w)) rfl ?_
    refine St.nil ?_
    refine St.then_normal ?_
    refine St.cond _ rfl (fun h37 => ?_) (fun h37 => ?_)
    · skip
      try simp only [Bool.and_true, Bool.true_and, decide_eq_true_eq, decide_eq_false_iff_not, Bool.and_eq_true, Bool.or_eq_true, Bool.and_eq_false_iff, Bool.or_eq_false_iff, Bool.not_eq_true', Bool.not_eq_false', beq_iff_eq, beq_eq_false_iff_ne, Int.not_lt, Int.not_le] at h37
      refine St.seq ?_
      refine St.rg ?_
      refine St.ev _ (Ev.move (Opd.mk rfl)) rfl ?_
      refine St.ev _ (Ev.build (ps := [(0, (Operand.const (Value.int IntKind.i64 5))), (1, (Operand.tmp 38))]) (Opds.cons (Opd.mk rfl) (Opds.cons (Opd.mk rfl) Opds.nil)) (fun w => bld26_0_1 rfl rfl w)) rfl ?_
      refine St.storeA (Opd.mk rfl) (Opd.mk rfl) sz26 (by first | simp only [List.length_cons, List.length_nil] | rfl) rfl ?_
      refine St.nil ?_
      refine St.then_normal ?_
      refine St.rett ?_
      refine St.then_ret ?_
      refine St.rets [_] [] Try.results19 ⟨⟨_, _, _, _, rfl, InB.mem, .inl ⟨⟨_, Try.underlying26⟩, sz26, rfl⟩⟩, trivial⟩ ?_ (fun _ hw => hw.sub)
      exact fe (by unfold frBad; rw [if_neg (by omega), if_neg (by omega)])
    · skip
      try simp only [Bool.and_true, Bool.true_and, decide_eq_true_eq, decide_eq_false_iff_not, Bool.and_eq_true, Bool.or_eq_true, Bool.and_eq_false_iff, Bool.or_eq_false_iff, Bool.not_eq_true', Bool.not_eq_false', beq_iff_eq, beq_eq_false_iff_ne, Int.not_lt, Int.not_le] at h37
      refine St.skip ?_
      refine St.then_normal ?_
      refine St.seq ?_
      refine St.rg ?_
      refine St.ev _ (Ev.build (ps := []) (Opds.nil) (fun w => bld26_  w)) rfl ?_
      refine St.storeA (Opd.mk rfl) (Opd.mk rfl) sz26 (by first | simp only [List.length_cons, List.length_nil] | rfl) rfl ?_
      refine St.nil ?_
      refine St.then_normal ?_
      refine St.rett ?_
      refine St.rets [_] [] Try.results19 ⟨⟨_, _, _, _, rfl, InB.mem, .inl ⟨⟨_, Try.underlying26⟩, sz26, rfl⟩⟩, trivial⟩ ?_ (fun _ hw => hw.sub)
      exact fe (by unfold frBad; rw [if_neg (by omega), if_pos (by omega)])

theorem FracBoth_spec (x y : Pr) (hx : prOk x) (hy : prOk y) : FnV Try.prog 14 #[frv x, frv y] [] (fv (frBoth x y)) := by
  refine FnV.body0 (args := [frv x, frv y]) 14 Try.func14 rfl Try.ntmps14 rfl (fun c => ?_)
  refine St.seq ?_
  refine St.rg ?_
  refine St.boxA (Opd.mk rfl) rfl (fun b2 => ?_)
  refine St.boxA (Opd.mk rfl) rfl (fun b3 => ?_)
  refine St.alloc zc26 rfl (fun b4 => ?_)
  refine St.nil ?_
  refine St.then_normal ?_
  refine St.seq ?_
  refine St.rg ?_
  refine St.ev _ (Ev.ldbA (Opd.mk rfl) Try.underlying24 trivial (by exact sz24)) rfl ?_
  refine St.ev _ (Ev.call (FracFault_spec x.1 x.2 (-1) hx.1 hx.2) cb19 (Opds.cons (Opd.mk rfl) (Opds.cons (Opd.mk rfl) Opds.nil))) rfl ?_
  refine St.alloc zc26 rfl (fun b5 => ?_)
  refine St.storeA (Opd.mk rfl) (Opd.mk rfl) sz26 (by first | simp only [List.length_cons, List.length_nil] | rfl) rfl ?_
  refine St.nil ?_
  refine St.then_normal ?_
  refine St.seq ?_
  refine St.seq ?_
  refine St.rg ?_
  refine St.ev _ (Ev.fldb0 (Opd.mk rfl) fo26_0) rfl ?_
  refine St.ev _ (Ev.ldb (Opd.mk rfl) Try.underlying3 trivial (by rfl)) rfl ?_
  refine St.ev _ (Ev.neq (Opd.mk rfl) (Opd.mk rfl)) rfl ?_
  refine St.nil ?_
  refine St.then_normal ?_
  refine St.cond _ rfl (fun h10 => ?_) (fun h10 => ?_)
  · skip
    try simp only [Bool.and_true, Bool.true_and, decide_eq_true_eq, decide_eq_false_iff_not, Bool.and_eq_true, Bool.or_eq_true, Bool.and_eq_false_iff, Bool.or_eq_false_iff, Bool.not_eq_true', Bool.not_eq_false', beq_iff_eq, beq_eq_false_iff_ne, Int.not_lt, Int.not_le] at h10
    refine St.seq ?_
    refine St.rg ?_
    refine St.ev _ (Ev.ldbA (Opd.mk rfl) Try.underlying26 trivial (by exact sz26)) rfl ?_
    refine St.storeA (Opd.mk rfl) (Opd.mk rfl) sz26 (by first | simp only [List.length_cons, List.length_nil] | rfl) rfl ?_
    refine St.nil ?_
    refine St.then_normal ?_
    refine St.rett ?_
    refine St.then_ret ?_
    refine St.rets [_] [] Try.results14 ⟨⟨_, _, _, _, rfl, InB.mem, .inl ⟨⟨_, Try.underlying26⟩, sz26, rfl⟩⟩, trivial⟩ ?_ (fun _ hw => hw.sub)
    exact fe (by unfold frBoth; rw [if_neg (by simpa using h10)])
  · skip
    try simp only [Bool.and_true, Bool.true_and, decide_eq_true_eq, decide_eq_false_iff_not, Bool.and_eq_true, Bool.or_eq_true, Bool.and_eq_false_iff, Bool.or_eq_false_iff, Bool.not_eq_true', Bool.not_eq_false', beq_iff_eq, beq_eq_false_iff_ne, Int.not_lt, Int.not_le] at h10
    refine St.skip ?_
    refine St.then_normal ?_
    refine St.seq ?_
    refine St.rg ?_
    refine St.ev _ (Ev.ldbA (Opd.mk rfl) Try.underlying24 trivial (by exact sz24)) rfl ?_
    refine St.ev _ (Ev.call (FracFault_spec y.1 y.2 (-2) hy.1 hy.2) cb19 (Opds.cons (Opd.mk rfl) (Opds.cons (Opd.mk rfl) Opds.nil))) rfl ?_
    refine St.storeA (Opd.mk rfl) (Opd.mk rfl) sz26 (by first | simp only [List.length_cons, List.length_nil] | rfl) rfl ?_
    refine St.nil ?_
    refine St.then_normal ?_
    refine St.rett ?_
    refine St.rets [_] [] Try.results14 ⟨⟨_, _, _, _, rfl, InB.mem, .inl ⟨⟨_, Try.underlying26⟩, sz26, rfl⟩⟩, trivial⟩ ?_ (fun _ hw => hw.sub)
    exact fe (by unfold frBoth; rw [if_pos (by simpa using h10)])

theorem FracOf_spec (neg : Bool) (a b : Nat) (ha : a < 340282366920938463463374607431768211456) (hb0 : 0 < b) (hb : b < 170141183460469231731687303715884105728) : FnV Try.prog 28 #[.bool neg, wv a, wv b] [] (frR (frLow neg a b)) := by
  refine FnV.body0 (args := [.bool neg, wv a, wv b]) 45 Try.func28 rfl Try.ntmps28 rfl (fun c => ?_)
  refine St.seq ?_
  have hg : Nat.gcd a b < 170141183460469231731687303715884105728 := Nat.lt_of_le_of_lt (Nat.gcd_le_right a hb0) hb
  have hg0 : 0 < Nat.gcd a b := Nat.gcd_pos_of_pos_right _ hb0
  refine St.rg ?_
  refine St.boxA (Opd.mk rfl) rfl (fun b4 => ?_)
  refine St.boxA (Opd.mk rfl) rfl (fun b5 => ?_)
  refine St.alloc zc24 rfl (fun b6 => ?_)
  refine St.alloc zc26 rfl (fun b7 => ?_)
  refine St.nil ?_
  refine St.then_normal ?_
  refine St.seq ?_
  refine St.rg ?_
  refine St.ev _ (Ev.ldbA (Opd.mk rfl) Try.underlying49 trivial (by exact sz49)) rfl ?_
  refine St.ev _ (Ev.ldbA (Opd.mk rfl) Try.underlying49 trivial (by exact sz49)) rfl ?_
  refine St.ev _ (Ev.call (WideGcd_spec a b ha (by omega)) cb37 (Opds.cons (Opd.mk rfl) (Opds.cons (Opd.mk rfl) Opds.nil))) rfl ?_
  refine St.alloc zc49 rfl (fun b8 => ?_)
  refine St.storeA (Opd.mk rfl) (Opd.mk rfl) sz49 (by first | simp only [List.length_cons, List.length_nil] | rfl) rfl ?_
  refine St.nil ?_
  refine St.then_normal ?_
  refine St.join (ι := Unit) (fun u T => T) (fun u => [blk b4 (.cells #[uv ((a / Nat.gcd a b) / 18446744073709551616), uv ((a / Nat.gcd a b) % 18446744073709551616)] 49 (0, 0)), blk b5 (.cells #[uv ((b / Nat.gcd a b) / 18446744073709551616), uv ((b / Nat.gcd a b) % 18446744073709551616)] 49 (0, 0)), blk b6 (.cells #[iv 0, iv 0] 24 (0, 0)), blk b7 (.cells #[iv 0, iv 0] 26 (0, 0))]) (fun u => True) (Keep.cons 0 rfl (Keep.cons 4 rfl (Keep.cons 5 rfl (Keep.cons 6 rfl (Keep.cons 7 rfl Keep.nil))))) ?_ ?_
  · skip
    refine St.par [b4, b5] mixed ?_
    refine SW.defer 1 (by repeat (first | refine NP.then ?_ | refine NP.inBlock ?_ | exact NP.body)) (by kernel_rfl) rfl (fun R => Ev.ldbA (Opd.mk rfl) Try.underlying49 trivial (by exact sz49)) (by kernel_rfl) rfl ?_
    refine SW.defer 4 (by repeat (first | refine NP.then ?_ | refine NP.inBlock ?_ | exact NP.body)) (by kernel_rfl) rfl (fun R => Ev.ldbA (Opd.mk rfl) Try.underlying49 trivial (by exact sz49)) (by kernel_rfl) rfl ?_
    refine SW.turn2 (i := 0) (j := 3) (by kernel_rfl) rfl rfl ?_ ?_
    · skip
      refine St.ev _ (Ev.ldbA (Opd.mk rfl) Try.underlying49 trivial (by exact sz49)) rfl ?_
      refine St.nil ?_
      refine St.then_normal ?_
      refine SW.go ?_
      refine SW.defer 2 (by repeat (first | refine NP.then ?_ | refine NP.inBlock ?_ | exact NP.body)) (by kernel_rfl) rfl (fun R => Ev.call (WideDiv_spec a (Nat.gcd a b) ha hg0 hg) cb40 (Opds.cons (Opd.mk rfl) (Opds.cons (Opd.mk rfl) Opds.nil))) (by kernel_rfl) rfl ?_
      refine SW.turn1 (i := 3) (by kernel_rfl) rfl ?_
      refine St.ev _ (Ev.ldbA (Opd.mk rfl) Try.underlying49 trivial (by exact sz49)) rfl ?_
      refine St.nil ?_
      refine St.then_normal ?_
      refine SW.go ?_
      refine SW.defer 5 (by repeat (first | refine NP.then ?_ | refine NP.inBlock ?_ | exact NP.body)) (by kernel_rfl) rfl (fun R => Ev.call (WideDiv_spec b (Nat.gcd a b) (by omega) hg0 hg) cb40 (Opds.cons (Opd.mk rfl) (Opds.cons (Opd.mk rfl) Opds.nil))) (by kernel_rfl) rfl ?_
      refine SW.turn1 (i := 6) (by kernel_rfl) rfl ?_
      refine St.storeA (Opd.mk rfl) (Opd.mk rfl) sz49 (by first | simp only [List.length_cons, List.length_nil] | rfl) rfl ?_
      refine St.nil ?_
      refine St.then_normal ?_
      refine SW.go ?_
      refine SW.turn1 (i := 7) (by kernel_rfl) rfl ?_
      refine St.storeA (Opd.mk rfl) (Opd.mk rfl) sz49 (by first | simp only [List.length_cons, List.length_nil] | rfl) rfl ?_
      refine St.nil ?_
      refine St.then_normal ?_
      refine SW.go ?_
      refine SW.done (by kernel_rfl) ?_
      refine St.then_normal ?_
      refine St.met () trivial (by repeat (first | exact Sub.nil | refine Sub.cons (by first | rfl | exact congrArg (fun z => some (iv z)) (by omega) | exact congrArg (fun z => some (Value.bool z)) (by first | assumption | exact Eq.symm (by assumption))) ?_)) (fun _ hw => hw.sub)
    · skip
      refine St.ev _ (Ev.ldbA (Opd.mk rfl) Try.underlying49 trivial (by exact sz49)) rfl ?_
      refine St.nil ?_
      refine St.then_normal ?_
      refine SW.go ?_
      refine SW.turn1 (i := 0) (by kernel_rfl) rfl ?_
      refine St.ev _ (Ev.ldbA (Opd.mk rfl) Try.underlying49 trivial (by exact sz49)) rfl ?_
      refine St.nil ?_
      refine St.then_normal ?_
      refine SW.go ?_
      refine SW.defer 2 (by repeat (first | refine NP.then ?_ | refine NP.inBlock ?_ | exact NP.body)) (by kernel_rfl) rfl (fun R => Ev.call (WideDiv_spec a (Nat.gcd a b) ha hg0 hg) cb40 (Opds.cons (Opd.mk rfl) (Opds.cons (Opd.mk rfl) Opds.nil))) (by kernel_rfl) rfl ?_
      refine SW.defer 5 (by repeat (first | refine NP.then ?_ | refine NP.inBlock ?_ | exact NP.body)) (by kernel_rfl) rfl (fun R => Ev.call (WideDiv_spec b (Nat.gcd a b) (by omega) hg0 hg) cb40 (Opds.cons (Opd.mk rfl) (Opds.cons (Opd.mk rfl) Opds.nil))) (by kernel_rfl) rfl ?_
      refine SW.turn1 (i := 6) (by kernel_rfl) rfl ?_
      refine St.storeA (Opd.mk rfl) (Opd.mk rfl) sz49 (by first | simp only [List.length_cons, List.length_nil] | rfl) rfl ?_
      refine St.nil ?_
      refine St.then_normal ?_
      refine SW.go ?_
      refine SW.turn1 (i := 7) (by kernel_rfl) rfl ?_
      refine St.storeA (Opd.mk rfl) (Opd.mk rfl) sz49 (by first | simp only [List.length_cons, List.length_nil] | rfl) rfl ?_
      refine St.nil ?_
      refine St.then_normal ?_
      refine SW.go ?_
      refine SW.done (by kernel_rfl) ?_
      refine St.then_normal ?_
      refine St.met () trivial (by repeat (first | exact Sub.nil | refine Sub.cons (by first | rfl | exact congrArg (fun z => some (iv z)) (by omega) | exact congrArg (fun z => some (Value.bool z)) (by first | assumption | exact Eq.symm (by assumption))) ?_)) (fun _ hw => hw.sub)
  · skip
    intro _ _
    unfold frLow
    generalize a / Nat.gcd a b = p
    generalize b / Nat.gcd a b = q
    refine St.seq ?_
    refine St.rg ?_
    refine St.ev _ (Ev.build (ps := [(0, (Operand.const (Value.int IntKind.u64 0))), (1, (Operand.const (Value.int IntKind.u64 1152921504606846976)))]) (Opds.cons (Opd.mk rfl) (Opds.cons (Opd.mk rfl) Opds.nil)) (fun w => bld49_0_1 rfl rfl w)) rfl ?_
    refine St.alloc zc49 rfl (fun b9 => ?_)
    refine St.storeA (Opd.mk rfl) (Opd.mk rfl) sz49 (by first | simp only [List.length_cons, List.length_nil] | rfl) rfl ?_
    refine St.nil ?_
    refine St.then_normal ?_
    refine St.seq ?_
    refine St.seq ?_
    refine St.rg ?_
    refine St.ev _ (Ev.ldbA (Opd.mk rfl) Try.underlying49 trivial (by exact sz49)) rfl ?_
    refine St.ev _ (Ev.ldbA (Opd.mk rfl) Try.underlying49 trivial (by exact sz49)) rfl ?_
    refine St.ev _ (Ev.call (WideLess_spec 1152921504606846976 p) cb33 (Opds.cons (Opd.mk rfl) (Opds.cons (Opd.mk rfl) Opds.nil))) rfl ?_
    refine St.ev _ (Ev.move (Opd.mk rfl)) rfl ?_
    refine St.gf _ rfl rfl (fun hg => Ev.ldbA (Opd.mk rfl) Try.underlying49 trivial (by exact sz49)) rfl ?_
    refine St.gf _ rfl rfl (fun hg => Ev.ldbA (Opd.mk rfl) Try.underlying49 trivial (by exact sz49)) rfl ?_
    refine St.gf _ rfl rfl (fun hg => Ev.call (WideLess_spec 1152921504606846976 q) cb33 (Opds.cons (Opd.gv rfl hg) (Opds.cons (Opd.gv rfl hg) Opds.nil))) rfl ?_
    refine St.ev _ (Ev.or (Opd.mk rfl) (fun hp => Opd.gv rfl hp)) rfl ?_
    refine St.nil ?_
    refine St.then_normal ?_
    refine St.cond _ rfl (fun h28 => ?_) (fun h28 => ?_)
    · skip
      try simp only [Bool.and_true, Bool.true_and, decide_eq_true_eq, decide_eq_false_iff_not, Bool.and_eq_true, Bool.or_eq_true, Bool.and_eq_false_iff, Bool.or_eq_false_iff, Bool.not_eq_true', Bool.not_eq_false', beq_iff_eq, beq_eq_false_iff_ne, Int.not_lt, Int.not_le] at h28
      refine St.seq ?_
      refine St.rg ?_
      refine St.ev _ (Ev.build (ps := []) (Opds.nil) (fun w => bld24_  w)) rfl ?_
      refine St.ev _ (Ev.build (ps := [(0, (Operand.const (Value.int IntKind.i64 18)))]) (Opds.cons (Opd.mk rfl) Opds.nil) (fun w => bld26_0 rfl w)) rfl ?_
      refine St.storeA (Opd.mk rfl) (Opd.mk rfl) sz24 (by first | simp only [List.length_cons, List.length_nil] | rfl) rfl ?_
      refine St.storeA (Opd.mk rfl) (Opd.mk rfl) sz26 (by first | simp only [List.length_cons, List.length_nil] | rfl) rfl ?_
      refine St.nil ?_
      refine St.then_normal ?_
      refine St.rett ?_
      refine St.then_ret ?_
      refine St.rets [_, _] [] Try.results28 ⟨⟨_, _, _, _, rfl, InB.mem, .inl ⟨⟨_, Try.underlying24⟩, sz24, rfl⟩⟩, ⟨⟨_, _, _, _, rfl, InB.mem, .inl ⟨⟨_, Try.underlying26⟩, sz26, rfl⟩⟩, trivial⟩⟩ ?_ (fun _ hw => hw.sub)
      exact fre (by unfold frOf; rw [if_pos (by omega)])
    · skip
      try simp only [Bool.and_true, Bool.true_and, decide_eq_true_eq, decide_eq_false_iff_not, Bool.and_eq_true, Bool.or_eq_true, Bool.and_eq_false_iff, Bool.or_eq_false_iff, Bool.not_eq_true', Bool.not_eq_false', beq_iff_eq, beq_eq_false_iff_ne, Int.not_lt, Int.not_le] at h28
      refine St.skip ?_
      refine St.then_normal ?_
      refine St.seq ?_
      refine St.rg ?_
      refine St.ev _ (Ev.fldb0 (Opd.mk rfl) fo49_1) rfl ?_
      refine St.ev _ (Ev.ldb (Opd.mk rfl) Try.underlying43 trivial (by rfl)) rfl ?_
      refine St.ev _ (Ev.convUI (Opd.mk rfl) (by rw [Try.underlying43]; rfl) Try.underlying3 (by omega)) rfl ?_
      refine St.ev _ (Ev.fldb0 (Opd.mk rfl) fo49_1) rfl ?_
      refine St.ev _ (Ev.ldb (Opd.mk rfl) Try.underlying43 trivial (by rfl)) rfl ?_
      refine St.ev _ (Ev.convUI (Opd.mk rfl) (by rw [Try.underlying43]; rfl) Try.underlying3 (by omega)) rfl ?_
      refine St.ev _ (Ev.build (ps := [(0, (Operand.tmp 33)), (1, (Operand.tmp 36))]) (Opds.cons (Opd.mk rfl) (Opds.cons (Opd.mk rfl) Opds.nil)) (fun w => bld24_0_1 rfl rfl w)) rfl ?_
      refine St.alloc zc24 rfl (fun b10 => ?_)
      refine St.storeA (Opd.mk rfl) (Opd.mk rfl) sz24 (by first | simp only [List.length_cons, List.length_nil] | rfl) rfl ?_
      refine St.nil ?_
      refine St.then_normal ?_
      refine St.seq ?_
      refine St.seq ?_
      refine St.rg ?_
      refine St.ev _ (Ev.move (Opd.mk rfl)) rfl ?_
      refine St.nil ?_
      refine St.then_normal ?_
      refine St.cond _ rfl (fun h38 => ?_) (fun h38 => ?_)
      · skip
        try simp only [Bool.and_true, Bool.true_and, decide_eq_true_eq, decide_eq_false_iff_not, Bool.and_eq_true, Bool.or_eq_true, Bool.and_eq_false_iff, Bool.or_eq_false_iff, Bool.not_eq_true', Bool.not_eq_false', beq_iff_eq, beq_eq_false_iff_ne, Int.not_lt, Int.not_le] at h38
        refine St.rg ?_
        refine St.ev _ (Ev.fldb0 (Opd.mk rfl) fo24_0) rfl ?_
        refine St.ev _ (Ev.ldb (Opd.mk rfl) Try.underlying3 trivial (by rfl)) rfl ?_
        refine St.ev _ (Ev.neg (Opd.mk rfl) (by omega)) rfl ?_
        refine St.ev _ (Ev.fldb0 (Opd.mk rfl) fo24_0) rfl ?_
        refine St.store1 (Opd.mk rfl) (Opd.mk rfl) sz3 rfl (by rfl) ?_
        refine St.nil ?_
        refine St.then_normal ?_
        refine St.seq ?_
        refine St.rg ?_
        refine St.ev _ (Ev.ldbA (Opd.mk rfl) Try.underlying24 trivial (by exact sz24)) rfl ?_
        refine St.ev _ (Ev.build (ps := []) (Opds.nil) (fun w => bld26_  w)) rfl ?_
        refine St.storeA (Opd.mk rfl) (Opd.mk rfl) sz24 (by first | simp only [List.length_cons, List.length_nil] | rfl) rfl ?_
        refine St.storeA (Opd.mk rfl) (Opd.mk rfl) sz26 (by first | simp only [List.length_cons, List.length_nil] | rfl) rfl ?_
        refine St.nil ?_
        refine St.then_normal ?_
        refine St.rett ?_
        refine St.rets [_, _] [] Try.results28 ⟨⟨_, _, _, _, rfl, InB.mem, .inl ⟨⟨_, Try.underlying24⟩, sz24, rfl⟩⟩, ⟨⟨_, _, _, _, rfl, InB.mem, .inl ⟨⟨_, Try.underlying26⟩, sz26, rfl⟩⟩, trivial⟩⟩ ?_ (fun _ hw => hw.sub)
        exact fre (by unfold frOf; rw [if_neg (by omega), h38, show q % 18446744073709551616 = q by omega, show p % 18446744073709551616 = p by omega]; rfl)
      · skip
        try simp only [Bool.and_true, Bool.true_and, decide_eq_true_eq, decide_eq_false_iff_not, Bool.and_eq_true, Bool.or_eq_true, Bool.and_eq_false_iff, Bool.or_eq_false_iff, Bool.not_eq_true', Bool.not_eq_false', beq_iff_eq, beq_eq_false_iff_ne, Int.not_lt, Int.not_le] at h38
        refine St.skip ?_
        refine St.then_normal ?_
        refine St.seq ?_
        refine St.rg ?_
        refine St.ev _ (Ev.ldbA (Opd.mk rfl) Try.underlying24 trivial (by exact sz24)) rfl ?_
        refine St.ev _ (Ev.build (ps := []) (Opds.nil) (fun w => bld26_  w)) rfl ?_
        refine St.storeA (Opd.mk rfl) (Opd.mk rfl) sz24 (by first | simp only [List.length_cons, List.length_nil] | rfl) rfl ?_
        refine St.storeA (Opd.mk rfl) (Opd.mk rfl) sz26 (by first | simp only [List.length_cons, List.length_nil] | rfl) rfl ?_
        refine St.nil ?_
        refine St.then_normal ?_
        refine St.rett ?_
        refine St.rets [_, _] [] Try.results28 ⟨⟨_, _, _, _, rfl, InB.mem, .inl ⟨⟨_, Try.underlying24⟩, sz24, rfl⟩⟩, ⟨⟨_, _, _, _, rfl, InB.mem, .inl ⟨⟨_, Try.underlying26⟩, sz26, rfl⟩⟩, trivial⟩⟩ ?_ (fun _ hw => hw.sub)
        exact fre (by unfold frOf; rw [if_neg (by omega), h38, show q % 18446744073709551616 = q by omega, show p % 18446744073709551616 = p by omega]; rfl)

theorem FracMake_spec (n d : Int) (hn : i64ok n) (hd : i64ok d) : FnV Try.prog 12 #[iv n, iv d] [] (frR (frMake n d)) := by
  refine FnV.body0 (args := [iv n, iv d]) 24 Try.func12 rfl Try.ntmps12 rfl (fun c => ?_)
  refine St.seq ?_
  have hn2 := hn
  have hd2 := hd
  unfold i64ok at hn2 hd2
  refine St.rg ?_
  refine St.alloc zc24 rfl (fun b4 => ?_)
  refine St.alloc zc26 rfl (fun b5 => ?_)
  refine St.nil ?_
  refine St.then_normal ?_
  refine St.seq ?_
  refine St.seq ?_
  refine St.rg ?_
  refine St.ev _ (Ev.move (Opd.mk rfl)) rfl ?_
  refine St.ev _ (Ev.eql (Opd.mk rfl) (Opd.mk rfl)) rfl ?_
  refine St.nil ?_
  refine St.then_normal ?_
  refine St.cond _ rfl (fun h7 => ?_) (fun h7 => ?_)
  · skip
    try simp only [Bool.and_true, Bool.true_and, decide_eq_true_eq, decide_eq_false_iff_not, Bool.and_eq_true, Bool.or_eq_true, Bool.and_eq_false_iff, Bool.or_eq_false_iff, Bool.not_eq_true', Bool.not_eq_false', beq_iff_eq, beq_eq_false_iff_ne, Int.not_lt, Int.not_le] at h7
    refine St.seq ?_
    refine St.rg ?_
    refine St.ev _ (Ev.build (ps := []) (Opds.nil) (fun w => bld24_  w)) rfl ?_
    refine St.ev _ (Ev.build (ps := [(0, (Operand.const (Value.int IntKind.i64 19))), (1, (Operand.const (Value.int IntKind.i64 (-2))))]) (Opds.cons (Opd.mk rfl) (Opds.cons (Opd.mk rfl) Opds.nil)) (fun w => bld26_0_1 rfl rfl w)) rfl ?_
    refine St.storeA (Opd.mk rfl) (Opd.mk rfl) sz24 (by first | simp only [List.length_cons, List.length_nil] | rfl) rfl ?_
    refine St.storeA (Opd.mk rfl) (Opd.mk rfl) sz26 (by first | simp only [List.length_cons, List.length_nil] | rfl) rfl ?_
    refine St.nil ?_
    refine St.then_normal ?_
    refine St.rett ?_
    refine St.then_ret ?_
    refine St.rets [_, _] [] Try.results12 ⟨⟨_, _, _, _, rfl, InB.mem, .inl ⟨⟨_, Try.underlying24⟩, sz24, rfl⟩⟩, ⟨⟨_, _, _, _, rfl, InB.mem, .inl ⟨⟨_, Try.underlying26⟩, sz26, rfl⟩⟩, trivial⟩⟩ ?_ (fun _ hw => hw.sub)
    exact fre (by unfold frMake; rw [if_pos h7])
  · skip
    try simp only [Bool.and_true, Bool.true_and, decide_eq_true_eq, decide_eq_false_iff_not, Bool.and_eq_true, Bool.or_eq_true, Bool.and_eq_false_iff, Bool.or_eq_false_iff, Bool.not_eq_true', Bool.not_eq_false', beq_iff_eq, beq_eq_false_iff_ne, Int.not_lt, Int.not_le] at h7
    refine St.skip ?_
    refine St.then_normal ?_
    refine St.seq ?_
    refine St.rg ?_
    refine St.ev _ (Ev.move (Opd.mk rfl)) rfl ?_
    refine St.ev _ (Ev.lss (Opd.mk rfl) (Opd.mk rfl)) rfl ?_
    refine St.ev _ (Ev.move (Opd.mk rfl)) rfl ?_
    refine St.ev _ (Ev.lss (Opd.mk rfl) (Opd.mk rfl)) rfl ?_
    refine St.ev _ (Ev.boolneq (Opd.mk rfl) (Opd.mk rfl) Try.underlying4) rfl ?_
    refine St.ev _ (Ev.move (Opd.mk rfl)) rfl ?_
    refine St.ev _ (Ev.call (Size_spec n hn) cb29 (Opds.cons (Opd.mk rfl) Opds.nil)) rfl ?_
    refine St.ev _ (Ev.build (ps := [(0, (Operand.const (Value.int IntKind.u64 0))), (1, (Operand.tmp 16))]) (Opds.cons (Opd.mk rfl) (Opds.cons (Opd.mk rfl) Opds.nil)) (fun w => bld49_0_1 rfl rfl w)) rfl ?_
    refine St.slot 17 (wv n.natAbs) rfl (wv_small (by omega)) ?_
    refine St.ev _ (Ev.move (Opd.mk rfl)) rfl ?_
    refine St.ev _ (Ev.call (Size_spec d hd) cb29 (Opds.cons (Opd.mk rfl) Opds.nil)) rfl ?_
    refine St.ev _ (Ev.build (ps := [(0, (Operand.const (Value.int IntKind.u64 0))), (1, (Operand.tmp 19))]) (Opds.cons (Opd.mk rfl) (Opds.cons (Opd.mk rfl) Opds.nil)) (fun w => bld49_0_1 rfl rfl w)) rfl ?_
    refine St.slot 20 (wv d.natAbs) rfl (wv_small (by omega)) ?_
    refine St.ev _ (Ev.call (FracOf_spec _ n.natAbs d.natAbs (by omega) (by omega) (by omega)) cb28 (Opds.cons (Opd.mk rfl) (Opds.cons (Opd.mk rfl) (Opds.cons (Opd.mk rfl) Opds.nil)))) rfl ?_
    refine St.ev _ (Ev.extract (Opd.mk rfl) rfl) rfl ?_
    refine St.ev _ (Ev.extract (Opd.mk rfl) rfl) rfl ?_
    refine St.storeA (Opd.mk rfl) (Opd.mk rfl) sz24 (by first | simp only [List.length_cons, List.length_nil] | rfl) rfl ?_
    refine St.storeA (Opd.mk rfl) (Opd.mk rfl) sz26 (by first | simp only [List.length_cons, List.length_nil] | rfl) rfl ?_
    refine St.nil ?_
    refine St.then_normal ?_
    refine St.rett ?_
    refine St.rets [_, _] [] Try.results12 ⟨⟨_, _, _, _, rfl, InB.mem, .inl ⟨⟨_, Try.underlying24⟩, sz24, rfl⟩⟩, ⟨⟨_, _, _, _, rfl, InB.mem, .inl ⟨⟨_, Try.underlying26⟩, sz26, rfl⟩⟩, trivial⟩⟩ ?_ (fun _ hw => hw.sub)
    exact fre (by unfold frMake; rw [if_neg h7]; cases decide (n < 0) <;> cases decide (d < 0) <;> rfl)

theorem nat_prod {a b : Nat} (ha : a ≤ 1152921504606846976) (hb : b ≤ 1152921504606846976) : a * b ≤ 1329227995784915872903807060280344576 := Nat.mul_le_mul ha hb
theorem fr2 {r : Pr × Pr} : ret1 [.agg #[iv r.1.1, iv r.1.2], .agg #[iv r.2.1, iv r.2.2]] = frR r := rfl
theorem fr2e {r r' : Pr × Pr} (h : r = r') : ret1 [.agg #[iv r.1.1, iv r.1.2], .agg #[iv r.2.1, iv r.2.2]] = frR r' := by rw [h]; rfl

theorem FracSum_spec (x y : Pr) (hx : Fr1 x) (hy : Fr1 y) : FnV Try.prog 20 #[frv x, frv y] [] (frR (frAdd x y)) := by
  refine FnV.body0 (args := [frv x, frv y]) 75 Try.func20 rfl Try.ntmps20 rfl (fun c => ?_)
  refine St.seq ?_
  have hx0 := hx
  have hy0 := hy
  obtain ⟨x1, x2, x3, x4, x5⟩ := hx0
  obtain ⟨y1, y2, y3, y4, y5⟩ := hy0
  have m1 := nat_prod (show x.1.natAbs ≤ 1152921504606846976 by omega) (show y.2.toNat ≤ 1152921504606846976 by omega)
  have m2 := nat_prod (show y.1.natAbs ≤ 1152921504606846976 by omega) (show x.2.toNat ≤ 1152921504606846976 by omega)
  have m3 := nat_prod (show x.2.toNat ≤ 1152921504606846976 by omega) (show y.2.toNat ≤ 1152921504606846976 by omega)
  have m4 := nat_prod (show x.1.natAbs ≤ 1152921504606846976 by omega) (show y.1.natAbs ≤ 1152921504606846976 by omega)
  have m5 := nat_prod (show x.2.toNat ≤ 1152921504606846976 by omega) (show y.1.natAbs ≤ 1152921504606846976 by omega)
  have d0 := fr_dpos hx hy
  refine St.rg ?_
  refine St.boxA (Opd.mk rfl) rfl (fun b2 => ?_)
  refine St.boxA (Opd.mk rfl) rfl (fun b3 => ?_)
  refine St.alloc zc24 rfl (fun b4 => ?_)
  refine St.alloc zc26 rfl (fun b5 => ?_)
  refine St.nil ?_
  refine St.then_normal ?_
  refine St.seq ?_
  refine St.par [] mixed ?_
  refine SW.defer 0 (by repeat (first | refine NP.then ?_ | refine NP.inBlock ?_ | exact NP.body)) (by kernel_rfl) rfl (fun R => Ev.fldb0 (Opd.mk rfl) fo24_0) (by kernel_rfl) rfl ?_
  refine SW.defer 1 (by repeat (first | refine NP.then ?_ | refine NP.inBlock ?_ | exact NP.body)) (by kernel_rfl) rfl (fun R => Ev.ldb (Opd.mk rfl) Try.underlying3 trivial (by rfl)) (by kernel_rfl) rfl ?_
  refine SW.defer 2 (by repeat (first | refine NP.then ?_ | refine NP.inBlock ?_ | exact NP.body)) (by kernel_rfl) rfl (fun R => Ev.call (Size_spec x.1 (prOk_of hx).1) cb29 (Opds.cons (Opd.mk rfl) Opds.nil)) (by kernel_rfl) rfl ?_
  refine SW.defer 3 (by repeat (first | refine NP.then ?_ | refine NP.inBlock ?_ | exact NP.body)) (by kernel_rfl) rfl (fun R => Ev.fldb0 (Opd.mk rfl) fo24_1) (by kernel_rfl) rfl ?_
  refine SW.defer 4 (by repeat (first | refine NP.then ?_ | refine NP.inBlock ?_ | exact NP.body)) (by kernel_rfl) rfl (fun R => Ev.ldb (Opd.mk rfl) Try.underlying3 trivial (by rfl)) (by kernel_rfl) rfl ?_
  refine SW.defer 5 (by repeat (first | refine NP.then ?_ | refine NP.inBlock ?_ | exact NP.body)) (by kernel_rfl) rfl (fun R => Ev.convIN (y.2.toNat) (Opd.mk rfl) (by rw [Try.underlying3]; rfl) Try.underlying43 (by omega)) (by kernel_rfl) rfl ?_
  refine SW.defer 6 (by repeat (first | refine NP.then ?_ | refine NP.inBlock ?_ | exact NP.body)) (by kernel_rfl) rfl (fun R => Ev.call (WideMul_spec x.1.natAbs y.2.toNat (by omega) (by omega)) cb32 (Opds.cons (Opd.mk rfl) (Opds.cons (Opd.mk rfl) Opds.nil))) (by kernel_rfl) rfl ?_
  refine SW.defer 7 (by repeat (first | refine NP.then ?_ | refine NP.inBlock ?_ | exact NP.body)) (by kernel_rfl) rfl (fun R => Ev.fldb0 (Opd.mk rfl) fo24_0) (by kernel_rfl) rfl ?_
  refine SW.defer 8 (by repeat (first | refine NP.then ?_ | refine NP.inBlock ?_ | exact NP.body)) (by kernel_rfl) rfl (fun R => Ev.ldb (Opd.mk rfl) Try.underlying3 trivial (by rfl)) (by kernel_rfl) rfl ?_
  refine SW.defer 9 (by repeat (first | refine NP.then ?_ | refine NP.inBlock ?_ | exact NP.body)) (by kernel_rfl) rfl (fun R => Ev.call (Size_spec y.1 (prOk_of hy).1) cb29 (Opds.cons (Opd.mk rfl) Opds.nil)) (by kernel_rfl) rfl ?_
  refine SW.defer 10 (by repeat (first | refine NP.then ?_ | refine NP.inBlock ?_ | exact NP.body)) (by kernel_rfl) rfl (fun R => Ev.fldb0 (Opd.mk rfl) fo24_1) (by kernel_rfl) rfl ?_
  refine SW.defer 11 (by repeat (first | refine NP.then ?_ | refine NP.inBlock ?_ | exact NP.body)) (by kernel_rfl) rfl (fun R => Ev.ldb (Opd.mk rfl) Try.underlying3 trivial (by rfl)) (by kernel_rfl) rfl ?_
  refine SW.defer 12 (by repeat (first | refine NP.then ?_ | refine NP.inBlock ?_ | exact NP.body)) (by kernel_rfl) rfl (fun R => Ev.convIN (x.2.toNat) (Opd.mk rfl) (by rw [Try.underlying3]; rfl) Try.underlying43 (by omega)) (by kernel_rfl) rfl ?_
  refine SW.defer 13 (by repeat (first | refine NP.then ?_ | refine NP.inBlock ?_ | exact NP.body)) (by kernel_rfl) rfl (fun R => Ev.call (WideMul_spec y.1.natAbs x.2.toNat (by omega) (by omega)) cb32 (Opds.cons (Opd.mk rfl) (Opds.cons (Opd.mk rfl) Opds.nil))) (by kernel_rfl) rfl ?_
  refine SW.alloc2 14 15 (by kernel_rfl) rfl rfl (by kernel_rfl) (by kernel_rfl) zc49 zc49 rfl rfl rfl (fun b6 b7 => ?_)
  refine SW.turn1 (i := 16) (by kernel_rfl) rfl ?_
  refine St.storeA (Opd.mk rfl) (Opd.mk rfl) sz49 (by first | simp only [List.length_cons, List.length_nil] | rfl) rfl ?_
  refine St.nil ?_
  refine St.then_normal ?_
  refine SW.go ?_
  refine SW.turn1 (i := 17) (by kernel_rfl) rfl ?_
  refine St.storeA (Opd.mk rfl) (Opd.mk rfl) sz49 (by first | simp only [List.length_cons, List.length_nil] | rfl) rfl ?_
  refine St.nil ?_
  refine St.then_normal ?_
  refine SW.go ?_
  refine SW.done (by kernel_rfl) ?_
  refine St.then_normal ?_
  refine St.seq ?_
  refine St.rg ?_
  refine St.ev _ (Ev.fldb0 (Opd.mk rfl) fo24_1) rfl ?_
  refine St.ev _ (Ev.ldb (Opd.mk rfl) Try.underlying3 trivial (by rfl)) rfl ?_
  refine St.ev _ (Ev.convIN (x.2.toNat) (Opd.mk rfl) (by rw [Try.underlying3]; rfl) Try.underlying43 (by omega)) rfl ?_
  refine St.ev _ (Ev.fldb0 (Opd.mk rfl) fo24_1) rfl ?_
  refine St.ev _ (Ev.ldb (Opd.mk rfl) Try.underlying3 trivial (by rfl)) rfl ?_
  refine St.ev _ (Ev.convIN (y.2.toNat) (Opd.mk rfl) (by rw [Try.underlying3]; rfl) Try.underlying43 (by omega)) rfl ?_
  refine St.ev _ (Ev.call (WideMul_spec x.2.toNat y.2.toNat (by omega) (by omega)) cb32 (Opds.cons (Opd.mk rfl) (Opds.cons (Opd.mk rfl) Opds.nil))) rfl ?_
  refine St.alloc zc49 rfl (fun b8 => ?_)
  refine St.storeA (Opd.mk rfl) (Opd.mk rfl) sz49 (by first | simp only [List.length_cons, List.length_nil] | rfl) rfl ?_
  refine St.nil ?_
  refine St.then_normal ?_
  refine St.seq ?_
  refine St.seq ?_
  refine St.rg ?_
  refine St.ev _ (Ev.fldb0 (Opd.mk rfl) fo24_0) rfl ?_
  refine St.ev _ (Ev.ldb (Opd.mk rfl) Try.underlying3 trivial (by rfl)) rfl ?_
  refine St.ev _ (Ev.lss (Opd.mk rfl) (Opd.mk rfl)) rfl ?_
  refine St.ev _ (Ev.fldb0 (Opd.mk rfl) fo24_0) rfl ?_
  refine St.ev _ (Ev.ldb (Opd.mk rfl) Try.underlying3 trivial (by rfl)) rfl ?_
  refine St.ev _ (Ev.lss (Opd.mk rfl) (Opd.mk rfl)) rfl ?_
  refine St.ev _ (Ev.booleql (Opd.mk rfl) (Opd.mk rfl) Try.underlying4) rfl ?_
  refine St.nil ?_
  refine St.then_normal ?_
  refine St.cond _ rfl (fun h36 => ?_) (fun h36 => ?_)
  · skip
    skip
    replace h36 := beq_iff_eq.1 h36
    refine St.seq ?_
    refine St.rqs 10 mixed (by kernel_rfl) (by kernel_rfl) (Mm.drawn _ _) ?_
    refine Sq.ev _ (Ev.fldb0 (Opd.mk rfl) fo24_0) rfl ?_
    refine Sq.ev _ (Ev.ldb (Opd.mk rfl) Try.underlying3 trivial (by rfl)) rfl ?_
    refine Sq.ev _ (Ev.lss (Opd.mk rfl) (Opd.mk rfl)) rfl ?_
    refine Sq.ev _ (Ev.ldbA (Opd.mk rfl) Try.underlying49 trivial (by exact sz49)) rfl ?_
    refine Sq.ev _ (Ev.ldbA (Opd.mk rfl) Try.underlying49 trivial (by exact sz49)) rfl ?_
    refine Sq.ev _ (Ev.call (WideAdd_spec (x.1.natAbs * y.2.toNat) (y.1.natAbs * x.2.toNat) (by omega) (by omega)) cb38 (Opds.cons (Opd.mk rfl) (Opds.cons (Opd.mk rfl) Opds.nil))) rfl ?_
    refine Sq.ev _ (Ev.ldbA (Opd.mk rfl) Try.underlying49 trivial (by exact sz49)) rfl ?_
    refine Sq.ev _ (Ev.call (FracOf_spec _ ((x.1.natAbs * y.2.toNat + y.1.natAbs * x.2.toNat) % 340282366920938463463374607431768211456) (x.2.toNat * y.2.toNat) (by omega) d0 (by omega)) cb28 (Opds.cons (Opd.mk rfl) (Opds.cons (Opd.mk rfl) (Opds.cons (Opd.mk rfl) Opds.nil)))) rfl ?_
    refine Sq.ev _ (Ev.extract (Opd.mk rfl) rfl) rfl ?_
    refine Sq.ev _ (Ev.extract (Opd.mk rfl) rfl) rfl ?_
    refine Sq.tail ?_
    refine St.storeA (Opd.mk rfl) (Opd.mk rfl) sz24 (by first | simp only [List.length_cons, List.length_nil] | rfl) rfl ?_
    refine St.storeA (Opd.mk rfl) (Opd.mk rfl) sz26 (by first | simp only [List.length_cons, List.length_nil] | rfl) rfl ?_
    refine St.nil ?_
    refine St.then_normal ?_
    refine St.rett ?_
    refine St.then_ret ?_
    refine St.rets [_, _] [] Try.results20 ⟨⟨_, _, _, _, rfl, InB.mem, .inl ⟨⟨_, Try.underlying24⟩, sz24, rfl⟩⟩, ⟨⟨_, _, _, _, rfl, InB.mem, .inl ⟨⟨_, Try.underlying26⟩, sz26, rfl⟩⟩, trivial⟩⟩ ?_ (fun _ hw => hw.sub)
    exact fr2e (by rw [frAdd_same hx hy h36, Nat.mod_eq_of_lt (by omega)])
  · skip
    skip
    replace h36 : ¬ (decide (x.1 < 0) = decide (y.1 < 0)) := fun k => by rw [beq_iff_eq.2 k] at h36; cases h36
    refine St.skip ?_
    refine St.then_normal ?_
    refine St.seq ?_
    refine St.seq ?_
    refine St.rg ?_
    refine St.ev _ (Ev.ldbA (Opd.mk rfl) Try.underlying49 trivial (by exact sz49)) rfl ?_
    refine St.ev _ (Ev.ldbA (Opd.mk rfl) Try.underlying49 trivial (by exact sz49)) rfl ?_
    refine St.ev _ (Ev.call (WideLess_spec (x.1.natAbs * y.2.toNat) (y.1.natAbs * x.2.toNat)) cb33 (Opds.cons (Opd.mk rfl) (Opds.cons (Opd.mk rfl) Opds.nil))) rfl ?_
    refine St.nil ?_
    refine St.then_normal ?_
    refine St.cond _ rfl (fun h49 => ?_) (fun h49 => ?_)
    · skip
      try simp only [Bool.and_true, Bool.true_and, decide_eq_true_eq, decide_eq_false_iff_not, Bool.and_eq_true, Bool.or_eq_true, Bool.and_eq_false_iff, Bool.or_eq_false_iff, Bool.not_eq_true', Bool.not_eq_false', beq_iff_eq, beq_eq_false_iff_ne, Int.not_lt, Int.not_le] at h49
      refine St.seq ?_
      refine St.rqs 10 mixed (by kernel_rfl) (by kernel_rfl) (Mm.drawn _ _) ?_
      refine Sq.ev _ (Ev.fldb0 (Opd.mk rfl) fo24_0) rfl ?_
      refine Sq.ev _ (Ev.ldb (Opd.mk rfl) Try.underlying3 trivial (by rfl)) rfl ?_
      refine Sq.ev _ (Ev.lss (Opd.mk rfl) (Opd.mk rfl)) rfl ?_
      refine Sq.ev _ (Ev.ldbA (Opd.mk rfl) Try.underlying49 trivial (by exact sz49)) rfl ?_
      refine Sq.ev _ (Ev.ldbA (Opd.mk rfl) Try.underlying49 trivial (by exact sz49)) rfl ?_
      refine Sq.ev _ (Ev.call (WideSub_spec (y.1.natAbs * x.2.toNat) (x.1.natAbs * y.2.toNat) (by omega) (by omega)) cb39 (Opds.cons (Opd.mk rfl) (Opds.cons (Opd.mk rfl) Opds.nil))) rfl ?_
      refine Sq.ev _ (Ev.ldbA (Opd.mk rfl) Try.underlying49 trivial (by exact sz49)) rfl ?_
      refine Sq.ev _ (Ev.call (FracOf_spec _ (y.1.natAbs * x.2.toNat - x.1.natAbs * y.2.toNat) (x.2.toNat * y.2.toNat) (by omega) d0 (by omega)) cb28 (Opds.cons (Opd.mk rfl) (Opds.cons (Opd.mk rfl) (Opds.cons (Opd.mk rfl) Opds.nil)))) rfl ?_
      refine Sq.ev _ (Ev.extract (Opd.mk rfl) rfl) rfl ?_
      refine Sq.ev _ (Ev.extract (Opd.mk rfl) rfl) rfl ?_
      refine Sq.tail ?_
      refine St.storeA (Opd.mk rfl) (Opd.mk rfl) sz24 (by first | simp only [List.length_cons, List.length_nil] | rfl) rfl ?_
      refine St.storeA (Opd.mk rfl) (Opd.mk rfl) sz26 (by first | simp only [List.length_cons, List.length_nil] | rfl) rfl ?_
      refine St.nil ?_
      refine St.then_normal ?_
      refine St.rett ?_
      refine St.then_ret ?_
      refine St.rets [_, _] [] Try.results20 ⟨⟨_, _, _, _, rfl, InB.mem, .inl ⟨⟨_, Try.underlying24⟩, sz24, rfl⟩⟩, ⟨⟨_, _, _, _, rfl, InB.mem, .inl ⟨⟨_, Try.underlying26⟩, sz26, rfl⟩⟩, trivial⟩⟩ ?_ (fun _ hw => hw.sub)
      exact fr2e (by rw [frAdd_lt hx hy h36 (by omega)])
    · skip
      try simp only [Bool.and_true, Bool.true_and, decide_eq_true_eq, decide_eq_false_iff_not, Bool.and_eq_true, Bool.or_eq_true, Bool.and_eq_false_iff, Bool.or_eq_false_iff, Bool.not_eq_true', Bool.not_eq_false', beq_iff_eq, beq_eq_false_iff_ne, Int.not_lt, Int.not_le] at h49
      refine St.skip ?_
      refine St.then_normal ?_
      refine St.seq ?_
      refine St.seq ?_
      refine St.rg ?_
      refine St.ev _ (Ev.ldbA (Opd.mk rfl) Try.underlying49 trivial (by exact sz49)) rfl ?_
      refine St.ev _ (Ev.ldbA (Opd.mk rfl) Try.underlying49 trivial (by exact sz49)) rfl ?_
      refine St.ev _ (Ev.structeql (Opd.mk rfl) (Opd.mk rfl) Try.eqGuardType49 (fun w => eqf49 _ _ _ _ w)) rfl ?_
      refine St.nil ?_
      refine St.then_normal ?_
      refine St.cond _ rfl (fun h62 => ?_) (fun h62 => ?_)
      · skip
        try simp only [Bool.and_true, Bool.true_and, decide_eq_true_eq, decide_eq_false_iff_not, Bool.and_eq_true, Bool.or_eq_true, Bool.and_eq_false_iff, Bool.or_eq_false_iff, Bool.not_eq_true', Bool.not_eq_false', beq_iff_eq, beq_eq_false_iff_ne, Int.not_lt, Int.not_le] at h62
        refine St.seq ?_
        refine St.rg ?_
        refine St.ev _ (Ev.build (ps := [(1, (Operand.const (Value.int IntKind.i64 1)))]) (Opds.cons (Opd.mk rfl) Opds.nil) (fun w => bld24_1 rfl w)) rfl ?_
        refine St.ev _ (Ev.build (ps := []) (Opds.nil) (fun w => bld26_  w)) rfl ?_
        refine St.storeA (Opd.mk rfl) (Opd.mk rfl) sz24 (by first | simp only [List.length_cons, List.length_nil] | rfl) rfl ?_
        refine St.storeA (Opd.mk rfl) (Opd.mk rfl) sz26 (by first | simp only [List.length_cons, List.length_nil] | rfl) rfl ?_
        refine St.nil ?_
        refine St.then_normal ?_
        refine St.rett ?_
        refine St.then_ret ?_
        refine St.rets [_, _] [] Try.results20 ⟨⟨_, _, _, _, rfl, InB.mem, .inl ⟨⟨_, Try.underlying24⟩, sz24, rfl⟩⟩, ⟨⟨_, _, _, _, rfl, InB.mem, .inl ⟨⟨_, Try.underlying26⟩, sz26, rfl⟩⟩, trivial⟩⟩ ?_ (fun _ hw => hw.sub)
        exact fre (by rw [frAdd_gt hx hy h36 (by omega), show x.1.natAbs * y.2.toNat - y.1.natAbs * x.2.toNat = 0 by omega, frLow_zero _ d0])
      · skip
        try simp only [Bool.and_true, Bool.true_and, decide_eq_true_eq, decide_eq_false_iff_not, Bool.and_eq_true, Bool.or_eq_true, Bool.and_eq_false_iff, Bool.or_eq_false_iff, Bool.not_eq_true', Bool.not_eq_false', beq_iff_eq, beq_eq_false_iff_ne, Int.not_lt, Int.not_le] at h62
        refine St.skip ?_
        refine St.then_normal ?_
        refine St.seq ?_
        refine St.rqs 10 mixed (by kernel_rfl) (by kernel_rfl) (Mm.drawn _ _) ?_
        refine Sq.ev _ (Ev.fldb0 (Opd.mk rfl) fo24_0) rfl ?_
        refine Sq.ev _ (Ev.ldb (Opd.mk rfl) Try.underlying3 trivial (by rfl)) rfl ?_
        refine Sq.ev _ (Ev.lss (Opd.mk rfl) (Opd.mk rfl)) rfl ?_
        refine Sq.ev _ (Ev.ldbA (Opd.mk rfl) Try.underlying49 trivial (by exact sz49)) rfl ?_
        refine Sq.ev _ (Ev.ldbA (Opd.mk rfl) Try.underlying49 trivial (by exact sz49)) rfl ?_
        refine Sq.ev _ (Ev.call (WideSub_spec (x.1.natAbs * y.2.toNat) (y.1.natAbs * x.2.toNat) (by omega) (by omega)) cb39 (Opds.cons (Opd.mk rfl) (Opds.cons (Opd.mk rfl) Opds.nil))) rfl ?_
        refine Sq.ev _ (Ev.ldbA (Opd.mk rfl) Try.underlying49 trivial (by exact sz49)) rfl ?_
        refine Sq.ev _ (Ev.call (FracOf_spec _ (x.1.natAbs * y.2.toNat - y.1.natAbs * x.2.toNat) (x.2.toNat * y.2.toNat) (by omega) d0 (by omega)) cb28 (Opds.cons (Opd.mk rfl) (Opds.cons (Opd.mk rfl) (Opds.cons (Opd.mk rfl) Opds.nil)))) rfl ?_
        refine Sq.ev _ (Ev.extract (Opd.mk rfl) rfl) rfl ?_
        refine Sq.ev _ (Ev.extract (Opd.mk rfl) rfl) rfl ?_
        refine Sq.tail ?_
        refine St.storeA (Opd.mk rfl) (Opd.mk rfl) sz24 (by first | simp only [List.length_cons, List.length_nil] | rfl) rfl ?_
        refine St.storeA (Opd.mk rfl) (Opd.mk rfl) sz26 (by first | simp only [List.length_cons, List.length_nil] | rfl) rfl ?_
        refine St.nil ?_
        refine St.then_normal ?_
        refine St.rett ?_
        refine St.rets [_, _] [] Try.results20 ⟨⟨_, _, _, _, rfl, InB.mem, .inl ⟨⟨_, Try.underlying24⟩, sz24, rfl⟩⟩, ⟨⟨_, _, _, _, rfl, InB.mem, .inl ⟨⟨_, Try.underlying26⟩, sz26, rfl⟩⟩, trivial⟩⟩ ?_ (fun _ hw => hw.sub)
        exact fr2e (by rw [frAdd_gt hx hy h36 (by omega)])

end Go.Proofs.Ytilpbgnlofoacaa
