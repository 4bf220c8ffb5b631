/-
  The walks of the wide numbers of the reference: each is the operation on natural numbers.
  Conditions: the numbers are below 2^128; no difference below 0, no division by 0.
-/
import Derived.Test.YteahhholjojfbaaDoorW1
import Derived.Test.YteahhholjojfbaaDoorFracQ
set_option maxRecDepth 20000
set_option linter.unusedSimpArgs false
set_option linter.unusedVariables false
namespace Go.Proofs.YteahhholjojfbaaDoor
open Go Go.J

theorem wge {h l n : Nat} (h1 : h = n / 18446744073709551616) (h2 : l = n % 18446744073709551616) : ret1 [.agg #[uv h, uv l]] = wv n := by rw [h1, h2]; rfl

theorem WideAdd_spec (a b : Nat) (ha : a < 340282366920938463463374607431768211456) (hb : b < 340282366920938463463374607431768211456) : FnV Tryd.prog 40 #[wv a, wv b] [] (wv ((a + b) % 340282366920938463463374607431768211456)) := by
  refine FnV.body0 (args := [wv a, wv b]) 27 Tryd.func40 rfl Tryd.ntmps40 rfl (fun c => ?_)
  refine St.seq ?_
  refine St.rg ?_
  refine St.boxA (Opd.mk rfl) rfl (fun b2 => ?_)
  refine St.boxA (Opd.mk rfl) rfl (fun b3 => ?_)
  refine St.alloc zc41 rfl (fun b4 => ?_)
  refine St.nil ?_
  refine St.then_normal ?_
  refine St.seq ?_
  refine St.rg ?_
  refine St.ev _ (Ev.fldb0 (Opd.mk rfl) fo41_0) rfl ?_
  refine St.ev _ (Ev.ldb (Opd.mk rfl) Tryd.underlying39 trivial (by rfl)) rfl ?_
  refine St.ev _ (Ev.fldb0 (Opd.mk rfl) fo41_0) rfl ?_
  refine St.ev _ (Ev.ldb (Opd.mk rfl) Tryd.underlying39 trivial (by rfl)) rfl ?_
  refine St.ev _ (Ev.addU (Opd.mk rfl) (Opd.mk rfl)) rfl ?_
  refine St.ev _ (Ev.fldb0 (Opd.mk rfl) fo41_1) rfl ?_
  refine St.ev _ (Ev.ldb (Opd.mk rfl) Tryd.underlying39 trivial (by rfl)) rfl ?_
  refine St.ev _ (Ev.fldb0 (Opd.mk rfl) fo41_1) rfl ?_
  refine St.ev _ (Ev.ldb (Opd.mk rfl) Tryd.underlying39 trivial (by rfl)) rfl ?_
  refine St.ev _ (Ev.addU (Opd.mk rfl) (Opd.mk rfl)) rfl ?_
  refine St.ev _ (Ev.build (ps := [(0, (Operand.tmp 10)), (1, (Operand.tmp 15))]) (Opds.cons (Opd.mk rfl) (Opds.cons (Opd.mk rfl) Opds.nil)) (fun w => bld41_0_1 rfl rfl w)) rfl ?_
  refine St.alloc zc41 rfl (fun b5 => ?_)
  refine St.storeA (Opd.mk rfl) (Opd.mk rfl) sz41 (by first | simp only [List.length_cons, List.length_nil] | rfl) rfl ?_
  refine St.nil ?_
  refine St.then_normal ?_
  refine St.seq ?_
  refine St.seq ?_
  refine St.rg ?_
  refine St.ev _ (Ev.fldb0 (Opd.mk rfl) fo41_1) rfl ?_
  refine St.ev _ (Ev.ldb (Opd.mk rfl) Tryd.underlying39 trivial (by rfl)) rfl ?_
  refine St.ev _ (Ev.fldb0 (Opd.mk rfl) fo41_1) rfl ?_
  refine St.ev _ (Ev.ldb (Opd.mk rfl) Tryd.underlying39 trivial (by rfl)) rfl ?_
  refine St.ev _ (Ev.lss (Opd.mk rfl) (Opd.mk rfl)) rfl ?_
  refine St.nil ?_
  refine St.then_normal ?_
  refine St.cond _ rfl (fun h21 => ?_) (fun h21 => ?_)
  · skip
    try simp only [Bool.and_true, Bool.true_and, decide_eq_true_eq, decide_eq_false_iff_not, Bool.and_eq_true, Bool.or_eq_true, Bool.and_eq_false_iff, Bool.or_eq_false_iff, Bool.not_eq_true', Bool.not_eq_false', beq_iff_eq, beq_eq_false_iff_ne, Int.not_lt, Int.not_le] at h21
    refine St.rg ?_
    refine St.ev _ (Ev.fldb0 (Opd.mk rfl) fo41_0) rfl ?_
    refine St.ev _ (Ev.ldb (Opd.mk rfl) Tryd.underlying39 trivial (by rfl)) rfl ?_
    refine St.ev _ (Ev.addU (b := 1) (Opd.mk rfl) (Opd.mk rfl)) rfl ?_
    refine St.ev _ (Ev.fldb0 (Opd.mk rfl) fo41_0) rfl ?_
    refine St.store1 (Opd.mk rfl) (Opd.mk rfl) sz39 rfl (by rfl) ?_
    refine St.nil ?_
    refine St.then_normal ?_
    refine St.seq ?_
    refine St.rg ?_
    refine St.ev _ (Ev.ldbA (Opd.mk rfl) Tryd.underlying41 trivial (by exact sz41)) rfl ?_
    refine St.storeA (Opd.mk rfl) (Opd.mk rfl) sz41 (by first | simp only [List.length_cons, List.length_nil] | rfl) rfl ?_
    refine St.nil ?_
    refine St.then_normal ?_
    refine St.rett ?_
    refine St.rets [_] [] Tryd.results40 ⟨⟨_, _, _, _, rfl, InB.mem, .inl ⟨⟨_, Tryd.underlying41⟩, sz41, rfl⟩⟩, trivial⟩ ?_ (fun _ hw => hw.sub)
    exact wge (by omega) (by omega)
  · skip
    try simp only [Bool.and_true, Bool.true_and, decide_eq_true_eq, decide_eq_false_iff_not, Bool.and_eq_true, Bool.or_eq_true, Bool.and_eq_false_iff, Bool.or_eq_false_iff, Bool.not_eq_true', Bool.not_eq_false', beq_iff_eq, beq_eq_false_iff_ne, Int.not_lt, Int.not_le] at h21
    refine St.skip ?_
    refine St.then_normal ?_
    refine St.seq ?_
    refine St.rg ?_
    refine St.ev _ (Ev.ldbA (Opd.mk rfl) Tryd.underlying41 trivial (by exact sz41)) rfl ?_
    refine St.storeA (Opd.mk rfl) (Opd.mk rfl) sz41 (by first | simp only [List.length_cons, List.length_nil] | rfl) rfl ?_
    refine St.nil ?_
    refine St.then_normal ?_
    refine St.rett ?_
    refine St.rets [_] [] Tryd.results40 ⟨⟨_, _, _, _, rfl, InB.mem, .inl ⟨⟨_, Tryd.underlying41⟩, sz41, rfl⟩⟩, trivial⟩ ?_ (fun _ hw => hw.sub)
    exact wge (by omega) (by omega)

theorem WideLess_spec (a b : Nat) : FnV Tryd.prog 29 #[wv a, wv b] [] (.bool (decide (a < b))) := by
  refine FnV.body0 (args := [wv a, wv b]) 24 Tryd.func29 rfl Tryd.ntmps29 rfl (fun c => ?_)
  refine St.seq ?_
  refine St.rg ?_
  refine St.boxA (Opd.mk rfl) rfl (fun b2 => ?_)
  refine St.boxA (Opd.mk rfl) rfl (fun b3 => ?_)
  refine St.ev _ (Ev.assign (Opd.mk rfl)) rfl ?_
  refine St.nil ?_
  refine St.then_normal ?_
  refine St.seq ?_
  refine St.rg ?_
  refine St.ev _ (Ev.fldb0 (Opd.mk rfl) fo41_0) rfl ?_
  refine St.ev _ (Ev.ldb (Opd.mk rfl) Tryd.underlying39 trivial (by rfl)) rfl ?_
  refine St.ev _ (Ev.fldb0 (Opd.mk rfl) fo41_0) rfl ?_
  refine St.ev _ (Ev.ldb (Opd.mk rfl) Tryd.underlying39 trivial (by rfl)) rfl ?_
  refine St.ev _ (Ev.lss (Opd.mk rfl) (Opd.mk rfl)) rfl ?_
  refine St.ev _ (Ev.move (Opd.mk rfl)) rfl ?_
  refine St.gf _ rfl rfl (fun hg => Ev.fldb0 (Opd.mk rfl) fo41_0) rfl ?_
  refine St.gf _ rfl rfl (fun hg => Ev.ldb (Opd.gv rfl hg) Tryd.underlying39 trivial (by rfl)) rfl ?_
  refine St.gf _ rfl rfl (fun hg => Ev.fldb0 (Opd.mk rfl) fo41_0) rfl ?_
  refine St.gf _ rfl rfl (fun hg => Ev.ldb (Opd.gv rfl hg) Tryd.underlying39 trivial (by rfl)) rfl ?_
  refine St.gf _ rfl rfl (fun hg => Ev.eql (Opd.gv rfl hg) (Opd.gv rfl hg)) rfl ?_
  refine St.gf _ rfl rfl (fun hg => Ev.move (Opd.gv rfl hg)) rfl ?_
  refine St.gct _ rfl rfl (fun hg => Ev.fldb0 (Opd.mk rfl) fo41_1) rfl ?_
  refine St.gct _ rfl rfl (fun hg => Ev.ldb (Opd.gv rfl hg) Tryd.underlying39 trivial (by rfl)) rfl ?_
  refine St.gct _ rfl rfl (fun hg => Ev.fldb0 (Opd.mk rfl) fo41_1) rfl ?_
  refine St.gct _ rfl rfl (fun hg => Ev.ldb (Opd.gv rfl hg) Tryd.underlying39 trivial (by rfl)) rfl ?_
  refine St.gct _ rfl rfl (fun hg => Ev.lss (Opd.gv rfl hg) (Opd.gv rfl hg)) rfl ?_
  refine St.gf _ rfl rfl (fun hg => Ev.and (Opd.gv rfl hg) (fun hp => Opd.gv rfl (and_i hg hp))) rfl ?_
  refine St.ev _ (Ev.or (Opd.mk rfl) (fun hp => Opd.gv rfl hp)) rfl ?_
  refine St.ev _ (Ev.assign (Opd.mk rfl)) rfl ?_
  refine St.nil ?_
  refine St.then_normal ?_
  refine St.rett ?_
  refine St.rets [_] [] Tryd.results29 ⟨rfl, trivial⟩ ?_ (fun _ hw => hw.sub)
  exact be (by rw [Bool.eq_iff_iff]; simp only [Bool.or_eq_true, Bool.and_eq_true, decide_eq_true_eq]; omega)

theorem WideSub_spec (a b : Nat) (ha : a < 340282366920938463463374607431768211456) (hb : b ≤ a) : FnV Tryd.prog 30 #[wv a, wv b] [] (wv (a - b)) := by
  refine FnV.body0 (args := [wv a, wv b]) 27 Tryd.func30 rfl Tryd.ntmps30 rfl (fun c => ?_)
  refine St.seq ?_
  refine St.rg ?_
  refine St.boxA (Opd.mk rfl) rfl (fun b2 => ?_)
  refine St.boxA (Opd.mk rfl) rfl (fun b3 => ?_)
  refine St.alloc zc41 rfl (fun b4 => ?_)
  refine St.nil ?_
  refine St.then_normal ?_
  refine St.seq ?_
  refine St.rg ?_
  refine St.ev _ (Ev.fldb0 (Opd.mk rfl) fo41_0) rfl ?_
  refine St.ev _ (Ev.ldb (Opd.mk rfl) Tryd.underlying39 trivial (by rfl)) rfl ?_
  refine St.ev _ (Ev.fldb0 (Opd.mk rfl) fo41_0) rfl ?_
  refine St.ev _ (Ev.ldb (Opd.mk rfl) Tryd.underlying39 trivial (by rfl)) rfl ?_
  refine St.ev _ (Ev.subU (Opd.mk rfl) (Opd.mk rfl) (by omega)) rfl ?_
  refine St.ev _ (Ev.fldb0 (Opd.mk rfl) fo41_1) rfl ?_
  refine St.ev _ (Ev.ldb (Opd.mk rfl) Tryd.underlying39 trivial (by rfl)) rfl ?_
  refine St.ev _ (Ev.fldb0 (Opd.mk rfl) fo41_1) rfl ?_
  refine St.ev _ (Ev.ldb (Opd.mk rfl) Tryd.underlying39 trivial (by rfl)) rfl ?_
  refine St.ev _ (Ev.subU (Opd.mk rfl) (Opd.mk rfl) (by omega)) rfl ?_
  refine St.ev _ (Ev.build (ps := [(0, (Operand.tmp 10)), (1, (Operand.tmp 15))]) (Opds.cons (Opd.mk rfl) (Opds.cons (Opd.mk rfl) Opds.nil)) (fun w => bld41_0_1 rfl rfl w)) rfl ?_
  refine St.alloc zc41 rfl (fun b5 => ?_)
  refine St.storeA (Opd.mk rfl) (Opd.mk rfl) sz41 (by first | simp only [List.length_cons, List.length_nil] | rfl) rfl ?_
  refine St.nil ?_
  refine St.then_normal ?_
  refine St.seq ?_
  refine St.seq ?_
  refine St.rg ?_
  refine St.ev _ (Ev.fldb0 (Opd.mk rfl) fo41_1) rfl ?_
  refine St.ev _ (Ev.ldb (Opd.mk rfl) Tryd.underlying39 trivial (by rfl)) rfl ?_
  refine St.ev _ (Ev.fldb0 (Opd.mk rfl) fo41_1) rfl ?_
  refine St.ev _ (Ev.ldb (Opd.mk rfl) Tryd.underlying39 trivial (by rfl)) rfl ?_
  refine St.ev _ (Ev.lss (Opd.mk rfl) (Opd.mk rfl)) rfl ?_
  refine St.nil ?_
  refine St.then_normal ?_
  refine St.cond _ rfl (fun h21 => ?_) (fun h21 => ?_)
  · skip
    try simp only [Bool.and_true, Bool.true_and, decide_eq_true_eq, decide_eq_false_iff_not, Bool.and_eq_true, Bool.or_eq_true, Bool.and_eq_false_iff, Bool.or_eq_false_iff, Bool.not_eq_true', Bool.not_eq_false', beq_iff_eq, beq_eq_false_iff_ne, Int.not_lt, Int.not_le] at h21
    refine St.rg ?_
    refine St.ev _ (Ev.fldb0 (Opd.mk rfl) fo41_0) rfl ?_
    refine St.ev _ (Ev.ldb (Opd.mk rfl) Tryd.underlying39 trivial (by rfl)) rfl ?_
    refine St.ev _ (Ev.subU (b := 1) (Opd.mk rfl) (Opd.mk rfl) (by omega)) rfl ?_
    refine St.ev _ (Ev.fldb0 (Opd.mk rfl) fo41_0) rfl ?_
    refine St.store1 (Opd.mk rfl) (Opd.mk rfl) sz39 rfl (by rfl) ?_
    refine St.nil ?_
    refine St.then_normal ?_
    refine St.seq ?_
    refine St.rg ?_
    refine St.ev _ (Ev.ldbA (Opd.mk rfl) Tryd.underlying41 trivial (by exact sz41)) rfl ?_
    refine St.storeA (Opd.mk rfl) (Opd.mk rfl) sz41 (by first | simp only [List.length_cons, List.length_nil] | rfl) rfl ?_
    refine St.nil ?_
    refine St.then_normal ?_
    refine St.rett ?_
    refine St.rets [_] [] Tryd.results30 ⟨⟨_, _, _, _, rfl, InB.mem, .inl ⟨⟨_, Tryd.underlying41⟩, sz41, rfl⟩⟩, trivial⟩ ?_ (fun _ hw => hw.sub)
    exact wge (by omega) (by omega)
  · skip
    try simp only [Bool.and_true, Bool.true_and, decide_eq_true_eq, decide_eq_false_iff_not, Bool.and_eq_true, Bool.or_eq_true, Bool.and_eq_false_iff, Bool.or_eq_false_iff, Bool.not_eq_true', Bool.not_eq_false', beq_iff_eq, beq_eq_false_iff_ne, Int.not_lt, Int.not_le] at h21
    refine St.skip ?_
    refine St.then_normal ?_
    refine St.seq ?_
    refine St.rg ?_
    refine St.ev _ (Ev.ldbA (Opd.mk rfl) Tryd.underlying41 trivial (by exact sz41)) rfl ?_
    refine St.storeA (Opd.mk rfl) (Opd.mk rfl) sz41 (by first | simp only [List.length_cons, List.length_nil] | rfl) rfl ?_
    refine St.nil ?_
    refine St.then_normal ?_
    refine St.rett ?_
    refine St.rets [_] [] Tryd.results30 ⟨⟨_, _, _, _, rfl, InB.mem, .inl ⟨⟨_, Tryd.underlying41⟩, sz41, rfl⟩⟩, trivial⟩ ?_ (fun _ hw => hw.sub)
    exact wge (by omega) (by omega)

theorem WideTwice_spec (a : Nat) (ha : a < 340282366920938463463374607431768211456) : FnV Tryd.prog 31 #[wv a] [] (wv ((a + a) % 340282366920938463463374607431768211456)) := by
  refine FnV.body0 (args := [wv a]) 6 Tryd.func31 rfl Tryd.ntmps31 rfl (fun c => ?_)
  refine St.seq ?_
  refine St.rg ?_
  refine St.boxA (Opd.mk rfl) rfl (fun b1 => ?_)
  refine St.alloc zc41 rfl (fun b2 => ?_)
  refine St.nil ?_
  refine St.then_normal ?_
  refine St.seq ?_
  refine St.rg ?_
  refine St.ev _ (Ev.ldbA (Opd.mk rfl) Tryd.underlying41 trivial (by exact sz41)) rfl ?_
  refine St.ev _ (Ev.ldbA (Opd.mk rfl) Tryd.underlying41 trivial (by exact sz41)) rfl ?_
  refine St.ev _ (Ev.call (WideAdd_spec a a ha ha) cb40 (Opds.cons (Opd.mk rfl) (Opds.cons (Opd.mk rfl) Opds.nil))) rfl ?_
  refine St.storeA (Opd.mk rfl) (Opd.mk rfl) sz41 (by first | simp only [List.length_cons, List.length_nil] | rfl) rfl ?_
  refine St.nil ?_
  refine St.then_normal ?_
  refine St.rett ?_
  refine St.rets [_] [] Tryd.results31 ⟨⟨_, _, _, _, rfl, InB.mem, .inl ⟨⟨_, Tryd.underlying41⟩, sz41, rfl⟩⟩, trivial⟩ ?_ (fun _ hw => hw.sub)
  rfl

theorem WideHalf_spec (a : Nat) (ha : a < 340282366920938463463374607431768211456) : FnV Tryd.prog 28 #[wv a] [] (wv (a / 2)) := by
  refine FnV.body0 (args := [wv a]) 15 Tryd.func28 rfl Tryd.ntmps28 rfl (fun c => ?_)
  refine St.seq ?_
  refine St.rg ?_
  refine St.boxA (Opd.mk rfl) rfl (fun b1 => ?_)
  refine St.alloc zc41 rfl (fun b2 => ?_)
  refine St.nil ?_
  refine St.then_normal ?_
  refine St.seq ?_
  refine St.rg ?_
  refine St.ev _ (Ev.fldb0 (Opd.mk rfl) fo41_0) rfl ?_
  refine St.ev _ (Ev.ldb (Opd.mk rfl) Tryd.underlying39 trivial (by rfl)) rfl ?_
  refine St.ev _ (Ev.quoU (b := 2) (Opd.mk rfl) (Opd.mk rfl) (by omega)) rfl ?_
  refine St.ev _ (Ev.fldb0 (Opd.mk rfl) fo41_1) rfl ?_
  refine St.ev _ (Ev.ldb (Opd.mk rfl) Tryd.underlying39 trivial (by rfl)) rfl ?_
  refine St.ev _ (Ev.quoU (b := 2) (Opd.mk rfl) (Opd.mk rfl) (by omega)) rfl ?_
  refine St.ev _ (Ev.fldb0 (Opd.mk rfl) fo41_0) rfl ?_
  refine St.ev _ (Ev.ldb (Opd.mk rfl) Tryd.underlying39 trivial (by rfl)) rfl ?_
  refine St.ev _ (Ev.remU (b := 2) (Opd.mk rfl) (Opd.mk rfl) (by omega)) rfl ?_
  refine St.ev _ (Ev.shlU 63 9223372036854775808 (by decide) (Opd.mk rfl) (Opd.mk rfl) (by decide)) rfl ?_
  refine St.ev _ (Ev.addU (Opd.mk rfl) (Opd.mk rfl)) rfl ?_
  refine St.ev _ (Ev.build (ps := [(0, (Operand.tmp 5)), (1, (Operand.tmp 13))]) (Opds.cons (Opd.mk rfl) (Opds.cons (Opd.mk rfl) Opds.nil)) (fun w => bld41_0_1 rfl rfl w)) rfl ?_
  refine St.storeA (Opd.mk rfl) (Opd.mk rfl) sz41 (by first | simp only [List.length_cons, List.length_nil] | rfl) rfl ?_
  refine St.nil ?_
  refine St.then_normal ?_
  refine St.rett ?_
  refine St.rets [_] [] Tryd.results28 ⟨⟨_, _, _, _, rfl, InB.mem, .inl ⟨⟨_, Tryd.underlying41⟩, sz41, rfl⟩⟩, trivial⟩ ?_ (fun _ hw => hw.sub)
  exact wge (by omega) (by omega)

theorem WideGcd_spec (a b : Nat) (ha : a < 340282366920938463463374607431768211456) (hb : b < 340282366920938463463374607431768211456) : FnV Tryd.prog 15 #[wv a, wv b] [] (wv (Nat.gcd a b)) := by
  refine FnV.body0 (args := [wv a, wv b]) 64 Tryd.func15 rfl Tryd.ntmps15 rfl (fun c => ?_)
  refine St.seq ?_
  refine St.rg ?_
  refine St.boxA (Opd.mk rfl) rfl (fun b2 => ?_)
  refine St.boxA (Opd.mk rfl) rfl (fun b3 => ?_)
  refine St.alloc zc41 rfl (fun b4 => ?_)
  refine St.nil ?_
  refine St.then_normal ?_
  refine St.seq ?_
  refine St.rg ?_
  refine St.ev _ (Ev.build (ps := []) (Opds.nil) (fun w => bld41_  w)) rfl ?_
  refine St.alloc zc41 rfl (fun b5 => ?_)
  refine St.storeA (Opd.mk rfl) (Opd.mk rfl) sz41 (by first | simp only [List.length_cons, List.length_nil] | rfl) rfl ?_
  refine St.nil ?_
  refine St.then_normal ?_
  refine St.seq ?_
  refine St.seq ?_
  refine St.rg ?_
  refine St.ev _ (Ev.ldbA (Opd.mk rfl) Tryd.underlying41 trivial (by exact sz41)) rfl ?_
  refine St.ev _ (Ev.ldbA (Opd.mk rfl) Tryd.underlying41 trivial (by exact sz41)) rfl ?_
  refine St.ev _ (Ev.structeql (Opd.mk rfl) (Opd.mk rfl) Tryd.eqGuardType41 (fun w => eqf41 _ _ _ _ w)) rfl ?_
  refine St.nil ?_
  refine St.then_normal ?_
  refine St.cond _ rfl (fun h11 => ?_) (fun h11 => ?_)
  · skip
    try simp only [Bool.and_true, Bool.true_and, decide_eq_true_eq, decide_eq_false_iff_not, Bool.and_eq_true, Bool.or_eq_true, Bool.and_eq_false_iff, Bool.or_eq_false_iff, Bool.not_eq_true', Bool.not_eq_false', beq_iff_eq, beq_eq_false_iff_ne, Int.not_lt, Int.not_le] at h11
    refine St.seq ?_
    refine St.rg ?_
    refine St.ev _ (Ev.ldbA (Opd.mk rfl) Tryd.underlying41 trivial (by exact sz41)) rfl ?_
    refine St.storeA (Opd.mk rfl) (Opd.mk rfl) sz41 (by first | simp only [List.length_cons, List.length_nil] | rfl) rfl ?_
    refine St.nil ?_
    refine St.then_normal ?_
    refine St.rett ?_
    refine St.then_ret ?_
    refine St.rets [_] [] Tryd.results15 ⟨⟨_, _, _, _, rfl, InB.mem, .inl ⟨⟨_, Tryd.underlying41⟩, sz41, rfl⟩⟩, trivial⟩ ?_ (fun _ hw => hw.sub)
    exact we (by rw [show a = 0 by omega, Nat.gcd_zero_left])
  · skip
    try simp only [Bool.and_true, Bool.true_and, decide_eq_true_eq, decide_eq_false_iff_not, Bool.and_eq_true, Bool.or_eq_true, Bool.and_eq_false_iff, Bool.or_eq_false_iff, Bool.not_eq_true', Bool.not_eq_false', beq_iff_eq, beq_eq_false_iff_ne, Int.not_lt, Int.not_le] at h11
    refine St.skip ?_
    refine St.then_normal ?_
    refine St.seq ?_
    refine St.seq ?_
    refine St.rg ?_
    refine St.ev _ (Ev.ldbA (Opd.mk rfl) Tryd.underlying41 trivial (by exact sz41)) rfl ?_
    refine St.ev _ (Ev.ldbA (Opd.mk rfl) Tryd.underlying41 trivial (by exact sz41)) rfl ?_
    refine St.ev _ (Ev.structeql (Opd.mk rfl) (Opd.mk rfl) Tryd.eqGuardType41 (fun w => eqf41 _ _ _ _ w)) rfl ?_
    refine St.nil ?_
    refine St.then_normal ?_
    refine St.cond _ rfl (fun h15 => ?_) (fun h15 => ?_)
    · skip
      try simp only [Bool.and_true, Bool.true_and, decide_eq_true_eq, decide_eq_false_iff_not, Bool.and_eq_true, Bool.or_eq_true, Bool.and_eq_false_iff, Bool.or_eq_false_iff, Bool.not_eq_true', Bool.not_eq_false', beq_iff_eq, beq_eq_false_iff_ne, Int.not_lt, Int.not_le] at h15
      refine St.seq ?_
      refine St.rg ?_
      refine St.ev _ (Ev.ldbA (Opd.mk rfl) Tryd.underlying41 trivial (by exact sz41)) rfl ?_
      refine St.storeA (Opd.mk rfl) (Opd.mk rfl) sz41 (by first | simp only [List.length_cons, List.length_nil] | rfl) rfl ?_
      refine St.nil ?_
      refine St.then_normal ?_
      refine St.rett ?_
      refine St.then_ret ?_
      refine St.rets [_] [] Tryd.results15 ⟨⟨_, _, _, _, rfl, InB.mem, .inl ⟨⟨_, Tryd.underlying41⟩, sz41, rfl⟩⟩, trivial⟩ ?_ (fun _ hw => hw.sub)
      exact we (by rw [show b = 0 by omega, Nat.gcd_zero_right])
    · skip
      try simp only [Bool.and_true, Bool.true_and, decide_eq_true_eq, decide_eq_false_iff_not, Bool.and_eq_true, Bool.or_eq_true, Bool.and_eq_false_iff, Bool.or_eq_false_iff, Bool.not_eq_true', Bool.not_eq_false', beq_iff_eq, beq_eq_false_iff_ne, Int.not_lt, Int.not_le] at h15
      refine St.skip ?_
      refine St.then_normal ?_
      refine St.seq ?_
      refine St.rg ?_
      refine St.ev _ (Ev.assign (Opd.mk rfl)) rfl ?_
      refine St.nil ?_
      refine St.then_normal ?_
      refine St.seq ?_
      refine St.block ?_
      refine St.loopH (ι := Nat × Nat × Nat) (fun x T => (6, iv x.2.2) :: T) (fun x => [blk b2 (.cells #[uv (x.1 / 18446744073709551616), uv (x.1 % 18446744073709551616)] 41 (0, 0)), blk b3 (.cells #[uv (x.2.1 / 18446744073709551616), uv (x.2.1 % 18446744073709551616)] 41 (0, 0)), blk b5 (.cells #[uv 0, uv 0] 41 (0, 0)), blk b4 (.cells #[uv 0, uv 0] 41 (0, 0))]) (fun x => GcdI a b x) (fun x => x.1) (a, b, 0) (Keep.cons 2 rfl (Keep.cons 3 rfl (Keep.cons 4 rfl (Keep.cons 5 rfl Keep.nil)))) ⟨by dsimp only; omega, by dsimp only; omega, ha, hb, by simp, by simp⟩ (by repeat (first | exact Sub.nil | refine Sub.cons (by first | rfl | exact congrArg (fun z => some (iv z)) (by first | omega | (dsimp only; omega)) | exact congrArg (fun z => some (Value.bool z)) (by first | assumption | exact Eq.symm (by assumption))) ?_)) (fun _ hw => hw.sub) ?_
      intro x hphi
      obtain ⟨h1, h2, h3, h4, h5, h6⟩ := hphi
      have hk := gcd_k h1 h5 ha
      refine St.seq ?_
      refine St.seq ?_
      refine St.rg ?_
      refine St.ev _ (Ev.fldb0 (Opd.mk rfl) fo41_1) rfl ?_
      refine St.ev _ (Ev.ldb (Opd.mk rfl) Tryd.underlying39 trivial (by rfl)) rfl ?_
      refine St.ev _ (Ev.remU (b := 2) (Opd.mk rfl) (Opd.mk rfl) (by omega)) rfl ?_
      refine St.ev _ (Ev.eql (Opd.mk rfl) (Opd.mk rfl)) rfl ?_
      refine St.ev _ (Ev.move (Opd.mk rfl)) rfl ?_
      refine St.gt _ rfl rfl (fun hg => Ev.fldb0 (Opd.mk rfl) fo41_1) rfl ?_
      refine St.gt _ rfl rfl (fun hg => Ev.ldb (Opd.gv rfl hg) Tryd.underlying39 trivial (by rfl)) rfl ?_
      refine St.gt _ rfl rfl (fun hg => Ev.remU (b := 2) (Opd.gv rfl hg) (Opd.mk rfl) (by first | omega | (simp only [Bool.and_true, Bool.true_and, decide_eq_true_eq, decide_eq_false_iff_not, Bool.and_eq_true, Bool.or_eq_true, Bool.and_eq_false_iff, Bool.or_eq_false_iff, Bool.not_eq_true', Bool.not_eq_false', beq_iff_eq, beq_eq_false_iff_ne, Int.not_lt, Int.not_le] at hg; omega))) rfl ?_
      refine St.gt _ rfl rfl (fun hg => Ev.eql (Opd.gv rfl hg) (Opd.mk rfl)) rfl ?_
      refine St.ev _ (Ev.and (Opd.mk rfl) (fun hp => Opd.gv rfl hp)) rfl ?_
      refine St.nil ?_
      refine St.then_normal ?_
      refine St.cond _ rfl (fun h26 => ?_) (fun h26 => ?_)
      · skip
        try simp only [Bool.and_true, Bool.true_and, decide_eq_true_eq, decide_eq_false_iff_not, Bool.and_eq_true, Bool.or_eq_true, Bool.and_eq_false_iff, Bool.or_eq_false_iff, Bool.not_eq_true', Bool.not_eq_false', beq_iff_eq, beq_eq_false_iff_ne, Int.not_lt, Int.not_le] at h26
        refine St.skip ?_
        refine St.then_normal ?_
        refine St.block ?_
        refine St.seq ?_
        refine St.par [b2, b3] mixed ?_
        refine SW.turn2 (i := 0) (j := 2) (by kernel_rfl) rfl rfl ?_ ?_
        · skip
          refine St.ev _ (Ev.ldbA (Opd.mk rfl) Tryd.underlying41 trivial (by exact sz41)) rfl ?_
          refine St.nil ?_
          refine St.then_normal ?_
          refine SW.go ?_
          refine SW.defer 1 (by repeat (first | refine NP.then ?_ | refine NP.inBlock ?_ | exact NP.body)) (by kernel_rfl) rfl (fun R => Ev.call (WideHalf_spec x.1 h3) cb28 (Opds.cons (Opd.mk rfl) Opds.nil)) (by kernel_rfl) rfl ?_
          refine SW.turn1 (i := 2) (by kernel_rfl) rfl ?_
          refine St.ev _ (Ev.ldbA (Opd.mk rfl) Tryd.underlying41 trivial (by exact sz41)) rfl ?_
          refine St.nil ?_
          refine St.then_normal ?_
          refine SW.go ?_
          refine SW.defer 3 (by repeat (first | refine NP.then ?_ | refine NP.inBlock ?_ | exact NP.body)) (by kernel_rfl) rfl (fun R => Ev.call (WideHalf_spec x.2.1 h4) cb28 (Opds.cons (Opd.mk rfl) Opds.nil)) (by kernel_rfl) rfl ?_
          refine SW.turn1 (i := 4) (by kernel_rfl) rfl ?_
          refine St.storeA (Opd.mk rfl) (Opd.mk rfl) sz41 (by first | simp only [List.length_cons, List.length_nil] | rfl) rfl ?_
          refine St.nil ?_
          refine St.then_normal ?_
          refine SW.go ?_
          refine SW.turn1 (i := 5) (by kernel_rfl) rfl ?_
          refine St.storeA (Opd.mk rfl) (Opd.mk rfl) sz41 (by first | simp only [List.length_cons, List.length_nil] | rfl) rfl ?_
          refine St.nil ?_
          refine St.then_normal ?_
          refine SW.go ?_
          refine SW.done (by kernel_rfl) ?_
          refine St.then_normal ?_
          refine St.rg ?_
          refine St.ev _ (Ev.move (Opd.mk rfl)) rfl ?_
          refine St.ev _ (Ev.add (Opd.mk rfl) (Opd.mk rfl) (by omega)) rfl ?_
          refine St.ev _ (Ev.assign (Opd.mk rfl)) rfl ?_
          refine St.nil ?_
          refine St.in_normal ?_
          refine St.then_normal ?_
          refine St.againH (x.1 / 2, x.2.1 / 2, x.2.2 + 1) (gcdI_half ⟨h1, h2, h3, h4, h5, h6⟩ (by omega) (by omega)) (by first | omega | (dsimp only; omega)) (by repeat (first | exact Sub.nil | refine Sub.cons (by first | rfl | exact congrArg (fun z => some (iv z)) (by first | omega | (dsimp only; omega)) | exact congrArg (fun z => some (Value.bool z)) (by first | assumption | exact Eq.symm (by assumption))) ?_)) (fun _ hw => hw.sub)
        · skip
          refine St.ev _ (Ev.ldbA (Opd.mk rfl) Tryd.underlying41 trivial (by exact sz41)) rfl ?_
          refine St.nil ?_
          refine St.then_normal ?_
          refine SW.go ?_
          refine SW.turn1 (i := 0) (by kernel_rfl) rfl ?_
          refine St.ev _ (Ev.ldbA (Opd.mk rfl) Tryd.underlying41 trivial (by exact sz41)) rfl ?_
          refine St.nil ?_
          refine St.then_normal ?_
          refine SW.go ?_
          refine SW.defer 1 (by repeat (first | refine NP.then ?_ | refine NP.inBlock ?_ | exact NP.body)) (by kernel_rfl) rfl (fun R => Ev.call (WideHalf_spec x.1 h3) cb28 (Opds.cons (Opd.mk rfl) Opds.nil)) (by kernel_rfl) rfl ?_
          refine SW.defer 3 (by repeat (first | refine NP.then ?_ | refine NP.inBlock ?_ | exact NP.body)) (by kernel_rfl) rfl (fun R => Ev.call (WideHalf_spec x.2.1 h4) cb28 (Opds.cons (Opd.mk rfl) Opds.nil)) (by kernel_rfl) rfl ?_
          refine SW.turn1 (i := 4) (by kernel_rfl) rfl ?_
          refine St.storeA (Opd.mk rfl) (Opd.mk rfl) sz41 (by first | simp only [List.length_cons, List.length_nil] | rfl) rfl ?_
          refine St.nil ?_
          refine St.then_normal ?_
          refine SW.go ?_
          refine SW.turn1 (i := 5) (by kernel_rfl) rfl ?_
          refine St.storeA (Opd.mk rfl) (Opd.mk rfl) sz41 (by first | simp only [List.length_cons, List.length_nil] | rfl) rfl ?_
          refine St.nil ?_
          refine St.then_normal ?_
          refine SW.go ?_
          refine SW.done (by kernel_rfl) ?_
          refine St.then_normal ?_
          refine St.rg ?_
          refine St.ev _ (Ev.move (Opd.mk rfl)) rfl ?_
          refine St.ev _ (Ev.add (Opd.mk rfl) (Opd.mk rfl) (by omega)) rfl ?_
          refine St.ev _ (Ev.assign (Opd.mk rfl)) rfl ?_
          refine St.nil ?_
          refine St.in_normal ?_
          refine St.then_normal ?_
          refine St.againH (x.1 / 2, x.2.1 / 2, x.2.2 + 1) (gcdI_half ⟨h1, h2, h3, h4, h5, h6⟩ (by omega) (by omega)) (by first | omega | (dsimp only; omega)) (by repeat (first | exact Sub.nil | refine Sub.cons (by first | rfl | exact congrArg (fun z => some (iv z)) (by first | omega | (dsimp only; omega)) | exact congrArg (fun z => some (Value.bool z)) (by first | assumption | exact Eq.symm (by assumption))) ?_)) (fun _ hw => hw.sub)
      · skip
        try simp only [Bool.and_true, Bool.true_and, decide_eq_true_eq, decide_eq_false_iff_not, Bool.and_eq_true, Bool.or_eq_true, Bool.and_eq_false_iff, Bool.or_eq_false_iff, Bool.not_eq_true', Bool.not_eq_false', beq_iff_eq, beq_eq_false_iff_ne, Int.not_lt, Int.not_le] at h26
        refine St.exit ?_
        refine St.then_exit ?_
        refine St.then_exit ?_
        refine St.in_hit ?_
        refine St.then_normal ?_
        refine St.seq ?_
        refine St.block ?_
        refine St.loopH (ι := Nat) (fun p T => T) (fun p => [blk b2 (.cells #[uv (p / 18446744073709551616), uv (p % 18446744073709551616)] 41 (0, 0)), blk b3 (.cells #[uv (x.2.1 / 18446744073709551616), uv (x.2.1 % 18446744073709551616)] 41 (0, 0)), blk b5 (.cells #[uv 0, uv 0] 41 (0, 0)), blk b4 (.cells #[uv 0, uv 0] 41 (0, 0))]) (fun p => 0 < p ∧ p < 340282366920938463463374607431768211456 ∧ 2 ^ x.2.2 * Nat.gcd p x.2.1 = Nat.gcd a b ∧ (p % 2 = 0 → x.2.1 % 2 = 1)) (fun p => p) x.1 (Keep.cons 2 rfl (Keep.cons 3 rfl (Keep.cons 4 rfl (Keep.cons 5 rfl (Keep.cons 6 rfl Keep.nil))))) ⟨h1, h3, h6, by omega⟩ (by repeat (first | exact Sub.nil | refine Sub.cons (by first | rfl | exact congrArg (fun z => some (iv z)) (by first | omega | (dsimp only; omega)) | exact congrArg (fun z => some (Value.bool z)) (by first | assumption | exact Eq.symm (by assumption))) ?_)) (fun _ hw => hw.sub) ?_
        intro p hphi
        obtain ⟨g1, g2, g3, g4⟩ := hphi
        refine St.seq ?_
        refine St.seq ?_
        refine St.rg ?_
        refine St.ev _ (Ev.fldb0 (Opd.mk rfl) fo41_1) rfl ?_
        refine St.ev _ (Ev.ldb (Opd.mk rfl) Tryd.underlying39 trivial (by rfl)) rfl ?_
        refine St.ev _ (Ev.remU (b := 2) (Opd.mk rfl) (Opd.mk rfl) (by omega)) rfl ?_
        refine St.ev _ (Ev.eql (Opd.mk rfl) (Opd.mk rfl)) rfl ?_
        refine St.nil ?_
        refine St.then_normal ?_
        refine St.cond _ rfl (fun h36 => ?_) (fun h36 => ?_)
        · skip
          try simp only [Bool.and_true, Bool.true_and, decide_eq_true_eq, decide_eq_false_iff_not, Bool.and_eq_true, Bool.or_eq_true, Bool.and_eq_false_iff, Bool.or_eq_false_iff, Bool.not_eq_true', Bool.not_eq_false', beq_iff_eq, beq_eq_false_iff_ne, Int.not_lt, Int.not_le] at h36
          refine St.skip ?_
          refine St.then_normal ?_
          refine St.block ?_
          refine St.rg ?_
          refine St.ev _ (Ev.ldbA (Opd.mk rfl) Tryd.underlying41 trivial (by exact sz41)) rfl ?_
          refine St.ev _ (Ev.call (WideHalf_spec p g2) cb28 (Opds.cons (Opd.mk rfl) Opds.nil)) rfl ?_
          refine St.storeA (Opd.mk rfl) (Opd.mk rfl) sz41 (by first | simp only [List.length_cons, List.length_nil] | rfl) rfl ?_
          refine St.nil ?_
          refine St.in_normal ?_
          refine St.then_normal ?_
          refine St.againH (p / 2) ⟨by omega, by omega, by rw [gcd_half_l (by omega) (g4 (by omega))]; exact g3, fun _ => g4 (by omega)⟩ (by first | omega | (dsimp only; omega)) (by repeat (first | exact Sub.nil | refine Sub.cons (by first | rfl | exact congrArg (fun z => some (iv z)) (by first | omega | (dsimp only; omega)) | exact congrArg (fun z => some (Value.bool z)) (by first | assumption | exact Eq.symm (by assumption))) ?_)) (fun _ hw => hw.sub)
        · skip
          try simp only [Bool.and_true, Bool.true_and, decide_eq_true_eq, decide_eq_false_iff_not, Bool.and_eq_true, Bool.or_eq_true, Bool.and_eq_false_iff, Bool.or_eq_false_iff, Bool.not_eq_true', Bool.not_eq_false', beq_iff_eq, beq_eq_false_iff_ne, Int.not_lt, Int.not_le] at h36
          refine St.exit ?_
          refine St.then_exit ?_
          refine St.then_exit ?_
          refine St.in_hit ?_
          refine St.then_normal ?_
          refine St.seq ?_
          refine St.block ?_
          refine St.loopH (ι := Nat × Nat) (fun y T => T) (fun y => [blk b2 (.cells #[uv (y.1 / 18446744073709551616), uv (y.1 % 18446744073709551616)] 41 (0, 0)), blk b3 (.cells #[uv (y.2 / 18446744073709551616), uv (y.2 % 18446744073709551616)] 41 (0, 0)), blk b5 (.cells #[uv 0, uv 0] 41 (0, 0)), blk b4 (.cells #[uv 0, uv 0] 41 (0, 0))]) (fun y => y.1 % 2 = 1 ∧ y.1 < 340282366920938463463374607431768211456 ∧ y.2 < 340282366920938463463374607431768211456 ∧ 2 ^ x.2.2 * Nat.gcd y.1 y.2 = Nat.gcd a b) (fun y => y.1 + y.2) (p, x.2.1) (Keep.cons 2 rfl (Keep.cons 3 rfl (Keep.cons 4 rfl (Keep.cons 5 rfl (Keep.cons 6 rfl Keep.nil))))) ⟨by dsimp only; omega, g2, h4, g3⟩ (by repeat (first | exact Sub.nil | refine Sub.cons (by first | rfl | exact congrArg (fun z => some (iv z)) (by first | omega | (dsimp only; omega)) | exact congrArg (fun z => some (Value.bool z)) (by first | assumption | exact Eq.symm (by assumption))) ?_)) (fun _ hw => hw.sub) ?_
          intro y hphi
          obtain ⟨e1, e2, e3, e4⟩ := hphi
          refine St.seq ?_
          refine St.seq ?_
          refine St.rg ?_
          refine St.ev _ (Ev.ldbA (Opd.mk rfl) Tryd.underlying41 trivial (by exact sz41)) rfl ?_
          refine St.ev _ (Ev.ldbA (Opd.mk rfl) Tryd.underlying41 trivial (by exact sz41)) rfl ?_
          refine St.ev _ (Ev.structneq (Opd.mk rfl) (Opd.mk rfl) Tryd.eqGuardType41 (fun w => eqf41 _ _ _ _ w)) rfl ?_
          refine St.nil ?_
          refine St.then_normal ?_
          refine St.cond _ rfl (fun h41 => ?_) (fun h41 => ?_)
          · skip
            try simp only [Bool.and_true, Bool.true_and, decide_eq_true_eq, decide_eq_false_iff_not, Bool.and_eq_true, Bool.or_eq_true, Bool.and_eq_false_iff, Bool.or_eq_false_iff, Bool.not_eq_true', Bool.not_eq_false', beq_iff_eq, beq_eq_false_iff_ne, Int.not_lt, Int.not_le] at h41
            refine St.skip ?_
            refine St.then_normal ?_
            refine St.block ?_
            refine St.seq ?_
            refine St.block ?_
            refine St.loopH (ι := Nat) (fun q T => T) (fun q => [blk b2 (.cells #[uv (y.1 / 18446744073709551616), uv (y.1 % 18446744073709551616)] 41 (0, 0)), blk b3 (.cells #[uv (q / 18446744073709551616), uv (q % 18446744073709551616)] 41 (0, 0)), blk b5 (.cells #[uv 0, uv 0] 41 (0, 0)), blk b4 (.cells #[uv 0, uv 0] 41 (0, 0))]) (fun q => 0 < q ∧ q ≤ y.2 ∧ Nat.gcd y.1 q = Nat.gcd y.1 y.2) (fun q => q) y.2 (Keep.cons 2 rfl (Keep.cons 3 rfl (Keep.cons 4 rfl (Keep.cons 5 rfl (Keep.cons 6 rfl Keep.nil))))) ⟨by omega, Nat.le_refl _, rfl⟩ (by repeat (first | exact Sub.nil | refine Sub.cons (by first | rfl | exact congrArg (fun z => some (iv z)) (by first | omega | (dsimp only; omega)) | exact congrArg (fun z => some (Value.bool z)) (by first | assumption | exact Eq.symm (by assumption))) ?_)) (fun _ hw => hw.sub) ?_
            intro q hphi
            obtain ⟨f1, f2, f3⟩ := hphi
            refine St.seq ?_
            refine St.seq ?_
            refine St.rg ?_
            refine St.ev _ (Ev.fldb0 (Opd.mk rfl) fo41_1) rfl ?_
            refine St.ev _ (Ev.ldb (Opd.mk rfl) Tryd.underlying39 trivial (by rfl)) rfl ?_
            refine St.ev _ (Ev.remU (b := 2) (Opd.mk rfl) (Opd.mk rfl) (by omega)) rfl ?_
            refine St.ev _ (Ev.eql (Opd.mk rfl) (Opd.mk rfl)) rfl ?_
            refine St.nil ?_
            refine St.then_normal ?_
            refine St.cond _ rfl (fun h45 => ?_) (fun h45 => ?_)
            · skip
              try simp only [Bool.and_true, Bool.true_and, decide_eq_true_eq, decide_eq_false_iff_not, Bool.and_eq_true, Bool.or_eq_true, Bool.and_eq_false_iff, Bool.or_eq_false_iff, Bool.not_eq_true', Bool.not_eq_false', beq_iff_eq, beq_eq_false_iff_ne, Int.not_lt, Int.not_le] at h45
              refine St.skip ?_
              refine St.then_normal ?_
              refine St.block ?_
              refine St.rg ?_
              refine St.ev _ (Ev.ldbA (Opd.mk rfl) Tryd.underlying41 trivial (by exact sz41)) rfl ?_
              refine St.ev _ (Ev.call (WideHalf_spec q (by omega)) cb28 (Opds.cons (Opd.mk rfl) Opds.nil)) rfl ?_
              refine St.storeA (Opd.mk rfl) (Opd.mk rfl) sz41 (by first | simp only [List.length_cons, List.length_nil] | rfl) rfl ?_
              refine St.nil ?_
              refine St.in_normal ?_
              refine St.then_normal ?_
              refine St.againH (q / 2) ⟨by omega, by omega, by rw [gcd_half_r e1 (by omega)]; exact f3⟩ (by first | omega | (dsimp only; omega)) (by repeat (first | exact Sub.nil | refine Sub.cons (by first | rfl | exact congrArg (fun z => some (iv z)) (by first | omega | (dsimp only; omega)) | exact congrArg (fun z => some (Value.bool z)) (by first | assumption | exact Eq.symm (by assumption))) ?_)) (fun _ hw => hw.sub)
            · skip
              try simp only [Bool.and_true, Bool.true_and, decide_eq_true_eq, decide_eq_false_iff_not, Bool.and_eq_true, Bool.or_eq_true, Bool.and_eq_false_iff, Bool.or_eq_false_iff, Bool.not_eq_true', Bool.not_eq_false', beq_iff_eq, beq_eq_false_iff_ne, Int.not_lt, Int.not_le] at h45
              refine St.exit ?_
              refine St.then_exit ?_
              refine St.then_exit ?_
              refine St.in_hit ?_
              refine St.then_normal ?_
              refine St.seq ?_
              refine St.seq ?_
              refine St.rg ?_
              refine St.ev _ (Ev.ldbA (Opd.mk rfl) Tryd.underlying41 trivial (by exact sz41)) rfl ?_
              refine St.ev _ (Ev.ldbA (Opd.mk rfl) Tryd.underlying41 trivial (by exact sz41)) rfl ?_
              refine St.ev _ (Ev.call (WideLess_spec q y.1) cb29 (Opds.cons (Opd.mk rfl) (Opds.cons (Opd.mk rfl) Opds.nil))) rfl ?_
              refine St.nil ?_
              refine St.then_normal ?_
              refine St.cond _ rfl (fun h50 => ?_) (fun h50 => ?_)
              · skip
                try simp only [Bool.and_true, Bool.true_and, decide_eq_true_eq, decide_eq_false_iff_not, Bool.and_eq_true, Bool.or_eq_true, Bool.and_eq_false_iff, Bool.or_eq_false_iff, Bool.not_eq_true', Bool.not_eq_false', beq_iff_eq, beq_eq_false_iff_ne, Int.not_lt, Int.not_le] at h50
                refine St.rg ?_
                refine St.ev _ (Ev.ldbA (Opd.mk rfl) Tryd.underlying41 trivial (by exact sz41)) rfl ?_
                refine St.ev _ (Ev.ldbA (Opd.mk rfl) Tryd.underlying41 trivial (by exact sz41)) rfl ?_
                refine St.storeA (Opd.mk rfl) (Opd.mk rfl) sz41 (by first | simp only [List.length_cons, List.length_nil] | rfl) rfl ?_
                refine St.storeA (Opd.mk rfl) (Opd.mk rfl) sz41 (by first | simp only [List.length_cons, List.length_nil] | rfl) rfl ?_
                refine St.nil ?_
                refine St.then_normal ?_
                refine St.rg ?_
                refine St.ev _ (Ev.ldbA (Opd.mk rfl) Tryd.underlying41 trivial (by exact sz41)) rfl ?_
                refine St.ev _ (Ev.ldbA (Opd.mk rfl) Tryd.underlying41 trivial (by exact sz41)) rfl ?_
                refine St.ev _ (Ev.call (WideSub_spec y.1 q e2 (by omega)) cb30 (Opds.cons (Opd.mk rfl) (Opds.cons (Opd.mk rfl) Opds.nil))) rfl ?_
                refine St.storeA (Opd.mk rfl) (Opd.mk rfl) sz41 (by first | simp only [List.length_cons, List.length_nil] | rfl) rfl ?_
                refine St.nil ?_
                refine St.in_normal ?_
                refine St.then_normal ?_
                refine St.againH (q, y.1 - q) ⟨by dsimp only; omega, by dsimp only; omega, by dsimp only; omega, by rw [gcd_less (by omega), Nat.gcd_comm, f3]; exact e4⟩ (by dsimp only; omega) (by repeat (first | exact Sub.nil | refine Sub.cons (by first | rfl | exact congrArg (fun z => some (iv z)) (by first | omega | (dsimp only; omega)) | exact congrArg (fun z => some (Value.bool z)) (by first | assumption | exact Eq.symm (by assumption))) ?_)) (fun _ hw => hw.sub)
              · skip
                try simp only [Bool.and_true, Bool.true_and, decide_eq_true_eq, decide_eq_false_iff_not, Bool.and_eq_true, Bool.or_eq_true, Bool.and_eq_false_iff, Bool.or_eq_false_iff, Bool.not_eq_true', Bool.not_eq_false', beq_iff_eq, beq_eq_false_iff_ne, Int.not_lt, Int.not_le] at h50
                refine St.skip ?_
                refine St.then_normal ?_
                refine St.rg ?_
                refine St.ev _ (Ev.ldbA (Opd.mk rfl) Tryd.underlying41 trivial (by exact sz41)) rfl ?_
                refine St.ev _ (Ev.ldbA (Opd.mk rfl) Tryd.underlying41 trivial (by exact sz41)) rfl ?_
                refine St.ev _ (Ev.call (WideSub_spec q y.1 (by omega) (by omega)) cb30 (Opds.cons (Opd.mk rfl) (Opds.cons (Opd.mk rfl) Opds.nil))) rfl ?_
                refine St.storeA (Opd.mk rfl) (Opd.mk rfl) sz41 (by first | simp only [List.length_cons, List.length_nil] | rfl) rfl ?_
                refine St.nil ?_
                refine St.in_normal ?_
                refine St.then_normal ?_
                refine St.againH (y.1, q - y.1) ⟨e1, e2, by dsimp only; omega, by rw [gcd_less (by omega), f3]; exact e4⟩ (by dsimp only; omega) (by repeat (first | exact Sub.nil | refine Sub.cons (by first | rfl | exact congrArg (fun z => some (iv z)) (by first | omega | (dsimp only; omega)) | exact congrArg (fun z => some (Value.bool z)) (by first | assumption | exact Eq.symm (by assumption))) ?_)) (fun _ hw => hw.sub)
          · skip
            try simp only [Bool.and_true, Bool.true_and, decide_eq_true_eq, decide_eq_false_iff_not, Bool.and_eq_true, Bool.or_eq_true, Bool.and_eq_false_iff, Bool.or_eq_false_iff, Bool.not_eq_true', Bool.not_eq_false', beq_iff_eq, beq_eq_false_iff_ne, Int.not_lt, Int.not_le] at h41
            refine St.exit ?_
            refine St.then_exit ?_
            refine St.then_exit ?_
            refine St.in_hit ?_
            refine St.then_normal ?_
            refine St.seq ?_
            refine St.seq ?_
            refine St.rg ?_
            refine St.ev _ (Ev.assign (Opd.mk rfl)) rfl ?_
            refine St.nil ?_
            refine St.then_normal ?_
            refine St.block ?_
            have hy0 : y.2 = 0 := by omega
            rw [hy0, Nat.gcd_zero_right] at e4
            refine St.blkEq b2 [uv (2 ^ 0 * y.1 / 18446744073709551616), uv (2 ^ 0 * y.1 % 18446744073709551616)] (by rw [Nat.pow_zero, Nat.one_mul]) ?_
            refine St.loopH (ι := Nat) (fun i T => (7, iv i) :: T) (fun i => [blk b2 (.cells #[uv (2 ^ i * y.1 / 18446744073709551616), uv (2 ^ i * y.1 % 18446744073709551616)] 41 (0, 0)), blk b3 (.cells #[uv (y.2 / 18446744073709551616), uv (y.2 % 18446744073709551616)] 41 (0, 0)), blk b5 (.cells #[uv 0, uv 0] 41 (0, 0)), blk b4 (.cells #[uv 0, uv 0] 41 (0, 0))]) (fun i => i ≤ x.2.2) (fun i => x.2.2 - i) 0 (Keep.cons 2 rfl (Keep.cons 4 rfl (Keep.cons 6 rfl Keep.nil))) (Nat.zero_le _) (by repeat (first | exact Sub.nil | refine Sub.cons (by first | rfl | exact congrArg (fun z => some (iv z)) (by first | omega | (dsimp only; omega)) | exact congrArg (fun z => some (Value.bool z)) (by first | assumption | exact Eq.symm (by assumption))) ?_)) (fun _ hw => hw.sub) ?_
            intro i hphi
            have hi := hphi
            have hg := gcd_lt b (by omega : 0 < a) ha
            refine St.seq ?_
            refine St.seq ?_
            refine St.rg ?_
            refine St.ev _ (Ev.move (Opd.mk rfl)) rfl ?_
            refine St.ev _ (Ev.move (Opd.mk rfl)) rfl ?_
            refine St.ev _ (Ev.lss (Opd.mk rfl) (Opd.mk rfl)) rfl ?_
            refine St.nil ?_
            refine St.then_normal ?_
            refine St.cond _ rfl (fun h58 => ?_) (fun h58 => ?_)
            · skip
              try simp only [Bool.and_true, Bool.true_and, decide_eq_true_eq, decide_eq_false_iff_not, Bool.and_eq_true, Bool.or_eq_true, Bool.and_eq_false_iff, Bool.or_eq_false_iff, Bool.not_eq_true', Bool.not_eq_false', beq_iff_eq, beq_eq_false_iff_ne, Int.not_lt, Int.not_le] at h58
              refine St.skip ?_
              refine St.then_normal ?_
              refine St.seq ?_
              refine St.block ?_
              refine St.rg ?_
              refine St.ev _ (Ev.ldbA (Opd.mk rfl) Tryd.underlying41 trivial (by exact sz41)) rfl ?_
              refine St.ev _ (Ev.call (WideTwice_spec (2 ^ i * y.1) (Nat.lt_of_le_of_lt (pow_mul_le hi (Nat.le_of_eq e4)) hg)) cb31 (Opds.cons (Opd.mk rfl) Opds.nil)) rfl ?_
              refine St.storeA (Opd.mk rfl) (Opd.mk rfl) sz41 (by first | simp only [List.length_cons, List.length_nil] | rfl) rfl ?_
              refine St.nil ?_
              refine St.in_normal ?_
              refine St.then_normal ?_
              refine St.rg ?_
              refine St.ev _ (Ev.move (Opd.mk rfl)) rfl ?_
              refine St.ev _ (Ev.add (Opd.mk rfl) (Opd.mk rfl) (by omega)) rfl ?_
              refine St.ev _ (Ev.assign (Opd.mk rfl)) rfl ?_
              refine St.nil ?_
              refine St.then_normal ?_
              refine St.blkEq b2 [uv (2 ^ (i + 1) * y.1 / 18446744073709551616), uv (2 ^ (i + 1) * y.1 % 18446744073709551616)] (by rw [pow_twice (pow_mul_le (show i + 1 ≤ x.2.2 by omega) (Nat.le_of_eq e4)) hg]) ?_
              refine St.againH (i + 1) (by omega) (by first | omega | (dsimp only; omega)) (by repeat (first | exact Sub.nil | refine Sub.cons (by first | rfl | exact congrArg (fun z => some (iv z)) (by first | omega | (dsimp only; omega)) | exact congrArg (fun z => some (Value.bool z)) (by first | assumption | exact Eq.symm (by assumption))) ?_)) (fun _ hw => hw.sub)
            · skip
              try simp only [Bool.and_true, Bool.true_and, decide_eq_true_eq, decide_eq_false_iff_not, Bool.and_eq_true, Bool.or_eq_true, Bool.and_eq_false_iff, Bool.or_eq_false_iff, Bool.not_eq_true', Bool.not_eq_false', beq_iff_eq, beq_eq_false_iff_ne, Int.not_lt, Int.not_le] at h58
              refine St.exit ?_
              refine St.then_exit ?_
              refine St.then_exit ?_
              refine St.in_hit ?_
              refine St.then_normal ?_
              refine St.seq ?_
              refine St.rg ?_
              refine St.ev _ (Ev.ldbA (Opd.mk rfl) Tryd.underlying41 trivial (by exact sz41)) rfl ?_
              refine St.storeA (Opd.mk rfl) (Opd.mk rfl) sz41 (by first | simp only [List.length_cons, List.length_nil] | rfl) rfl ?_
              refine St.nil ?_
              refine St.then_normal ?_
              refine St.rett ?_
              refine St.rets [_] [] Tryd.results15 ⟨⟨_, _, _, _, rfl, InB.mem, .inl ⟨⟨_, Tryd.underlying41⟩, sz41, rfl⟩⟩, trivial⟩ ?_ (fun _ hw => hw.sub)
              exact we (by rw [show i = x.2.2 by omega]; exact e4)

end Go.Proofs.YteahhholjojfbaaDoor
