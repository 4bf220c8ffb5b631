/-
  The walks of the inner functions of frac: size, gcd, check, of, product.
  Conditions: the integers are integers of their types.
-/
import Derived.Test.YteahhholjojfbaaDoorChecked
import Derived.Test.YteahhholjojfbaaDoorJ12
import Derived.Test.YteahhholjojfbaaDoorJ13
import Derived.Test.YteahhholjojfbaaDoorFacts
set_option maxRecDepth 20000
set_option linter.unusedSimpArgs false
set_option linter.unusedVariables false
namespace Go.Proofs.YteahhholjojfbaaDoor
open Go Go.J

theorem uve {a b a' b' : Nat} (h : a = a') (k : b = b') : ret1 [uv a, uv b] = .tuple #[uv a', uv b'] := by rw [h, k]; rfl
theorem ube {a a' : Nat} {p q : Bool} (h : a = a') (k : p = q) : ret1 [uv a, .bool p] = .tuple #[uv a', .bool q] := by rw [h, k]; rfl
theorem decide_and_eq {p q : Prop} [Decidable p] [Decidable q] : decide (p ∧ q) = (decide p && decide q) := by simp

theorem size_spec (z : Int) (hz : i64ok z) : FnV Tryd.prog 22 #[iv z] [] (uv z.natAbs) := by
  refine FnV.body0 (args := [iv z]) 12 Tryd.func22 rfl Tryd.ntmps22 rfl (fun c => ?_)
  refine St.seq ?_
  refine St.rg ?_
  refine St.ev _ (Ev.assign (Opd.mk rfl)) rfl ?_
  refine St.nil ?_
  refine St.then_normal ?_
  refine St.seq ?_
  refine St.seq ?_
  unfold i64ok at hz
  refine St.rg ?_
  refine St.ev _ (Ev.move (Opd.mk rfl)) rfl ?_
  refine St.ev _ (Ev.lss (Opd.mk rfl) (Opd.mk rfl)) rfl ?_
  refine St.nil ?_
  refine St.then_normal ?_
  refine St.cond _ rfl (fun h4 => ?_) (fun h4 => ?_)
  · skip
    try simp only [Bool.and_true, Bool.true_and, decide_eq_true_eq, decide_eq_false_iff_not, Bool.and_eq_true, Bool.or_eq_true, Bool.and_eq_false_iff, Bool.or_eq_false_iff, Bool.not_eq_true', Bool.not_eq_false', beq_iff_eq, beq_eq_false_iff_ne, Int.not_lt, Int.not_le] at h4
    refine St.seq ?_
    refine St.rg ?_
    refine St.ev _ (Ev.move (Opd.mk rfl)) rfl ?_
    refine St.ev _ (Ev.add (Opd.mk rfl) (Opd.mk rfl) (by omega)) rfl ?_
    refine St.ev _ (Ev.neg (Opd.mk rfl) (by omega)) rfl ?_
    refine St.ev _ (Ev.convIN ((-(z + 1)).toNat) (Opd.mk rfl) (by rw [Tryd.underlying3]; rfl) Tryd.underlying39 (by omega)) rfl ?_
    refine St.ev _ (Ev.addN (b := 1) (Opd.mk rfl) (Opd.mk rfl) (by omega)) rfl ?_
    refine St.ev _ (Ev.assign (Opd.mk rfl)) rfl ?_
    refine St.nil ?_
    refine St.then_normal ?_
    refine St.rett ?_
    refine St.then_ret ?_
    refine St.rets [_] [] Tryd.results22 ⟨rfl, trivial⟩ ?_ (fun _ hw => hw.sub)
    exact ue (by omega)
  · skip
    try simp only [Bool.and_true, Bool.true_and, decide_eq_true_eq, decide_eq_false_iff_not, Bool.and_eq_true, Bool.or_eq_true, Bool.and_eq_false_iff, Bool.or_eq_false_iff, Bool.not_eq_true', Bool.not_eq_false', beq_iff_eq, beq_eq_false_iff_ne, Int.not_lt, Int.not_le] at h4
    refine St.skip ?_
    refine St.then_normal ?_
    refine St.seq ?_
    refine St.rg ?_
    refine St.ev _ (Ev.move (Opd.mk rfl)) rfl ?_
    refine St.ev _ (Ev.convIN (z.natAbs) (Opd.mk rfl) (by rw [Tryd.underlying3]; rfl) Tryd.underlying39 (by omega)) rfl ?_
    refine St.ev _ (Ev.assign (Opd.mk rfl)) rfl ?_
    refine St.nil ?_
    refine St.then_normal ?_
    refine St.rett ?_
    refine St.rets [_] [] Tryd.results22 ⟨rfl, trivial⟩ ?_ (fun _ hw => hw.sub)
    exact ue (by omega)

theorem gcd_spec (a b : Nat) : FnV Tryd.prog 23 #[uv a, uv b] [] (uv (Nat.gcd a b)) := by
  refine FnV.body0 (args := [uv a, uv b]) 12 Tryd.func23 rfl Tryd.ntmps23 rfl (fun c => ?_)
  refine St.seq ?_
  refine St.rg ?_
  refine St.ev _ (Ev.assign (Opd.mk rfl)) rfl ?_
  refine St.nil ?_
  refine St.then_normal ?_
  refine St.seq ?_
  refine St.block ?_
  refine St.loopS (ι := Nat × Nat) (fun x T => (0, uv x.1) :: (1, uv x.2) :: T) (fun x => Nat.gcd x.1 x.2 = Nat.gcd a b) (fun x => x.2) (a, b) (Keep.cons 4 rfl Keep.nil) rfl (by repeat (first | exact Sub.nil | refine Sub.cons (by first | rfl | exact congrArg (fun z => some (iv z)) (by first | omega | (dsimp only; omega)) | exact congrArg (fun z => some (Value.bool z)) (by first | assumption | exact Eq.symm (by assumption))) ?_)) ?_
  intro x hphi
  refine St.seq ?_
  refine St.seq ?_
  refine St.rg ?_
  refine St.ev _ (Ev.move (Opd.mk rfl)) rfl ?_
  refine St.ev _ (Ev.neq (Opd.mk rfl) (Opd.mk rfl)) rfl ?_
  refine St.nil ?_
  refine St.then_normal ?_
  refine St.cond _ rfl (fun h6 => ?_) (fun h6 => ?_)
  · skip
    try simp only [Bool.and_true, Bool.true_and, decide_eq_true_eq, decide_eq_false_iff_not, Bool.and_eq_true, Bool.or_eq_true, Bool.and_eq_false_iff, Bool.or_eq_false_iff, Bool.not_eq_true', Bool.not_eq_false', beq_iff_eq, beq_eq_false_iff_ne, Int.not_lt, Int.not_le] at h6
    refine St.skip ?_
    refine St.then_normal ?_
    refine St.block ?_
    refine St.rq mixed (by kernel_rfl) (Mm.drawn _ _) ?_
    refine Sq.ev _ (Ev.move (Opd.mk rfl)) rfl ?_
    refine Sq.ev _ (Ev.move (Opd.mk rfl)) rfl ?_
    refine Sq.ev _ (Ev.move (Opd.mk rfl)) rfl ?_
    refine Sq.ev _ (Ev.remU (Opd.mk rfl) (Opd.mk rfl) (by omega)) rfl ?_
    refine Sq.ev _ (Ev.assign (Opd.mk rfl)) rfl ?_
    refine Sq.ev _ (Ev.assign (Opd.mk rfl)) rfl ?_
    refine Sq.nil ?_
    refine St.in_normal ?_
    refine St.then_normal ?_
    refine St.againS (x.2, x.1 % x.2) ((gcd_step _ _).trans hphi) (Nat.mod_lt _ (by omega)) (by repeat (first | exact Sub.nil | refine Sub.cons (by first | rfl | exact congrArg (fun z => some (iv z)) (by first | omega | (dsimp only; omega)) | exact congrArg (fun z => some (Value.bool z)) (by first | assumption | exact Eq.symm (by assumption))) ?_)) (fun _ hw => hw.sub)
  · skip
    try simp only [Bool.and_true, Bool.true_and, decide_eq_true_eq, decide_eq_false_iff_not, Bool.and_eq_true, Bool.or_eq_true, Bool.and_eq_false_iff, Bool.or_eq_false_iff, Bool.not_eq_true', Bool.not_eq_false', beq_iff_eq, beq_eq_false_iff_ne, Int.not_lt, Int.not_le] at h6
    refine St.exit ?_
    refine St.then_exit ?_
    refine St.then_exit ?_
    refine St.in_hit ?_
    refine St.then_normal ?_
    refine St.seq ?_
    refine St.rg ?_
    refine St.ev _ (Ev.move (Opd.mk rfl)) rfl ?_
    refine St.ev _ (Ev.assign (Opd.mk rfl)) rfl ?_
    refine St.nil ?_
    refine St.then_normal ?_
    refine St.rett ?_
    refine St.rets [_] [] Tryd.results23 ⟨rfl, trivial⟩ ?_ (fun _ hw => hw.sub)
    exact ue (by rw [← hphi, show x.2 = 0 by omega, Nat.gcd_zero_right])

theorem of_spec (neg : Bool) (a b : Nat) : FnV Tryd.prog 24 #[.bool neg, uv a, uv b] [] (frR (frOf neg a b)) := by
  refine FnV.body0 (args := [.bool neg, uv a, uv b]) 29 Tryd.func24 rfl Tryd.ntmps24 rfl (fun c => ?_)
  refine St.seq ?_
  refine St.rg ?_
  refine St.alloc zc23 rfl (fun b6 => ?_)
  refine St.alloc zc26 rfl (fun b7 => ?_)
  refine St.nil ?_
  refine St.then_normal ?_
  refine St.seq ?_
  refine St.seq ?_
  refine St.rg ?_
  refine St.ev _ (Ev.move (Opd.mk rfl)) rfl ?_
  refine St.ev _ (Ev.gtr (Opd.mk rfl) (Opd.mk rfl)) rfl ?_
  refine St.ev _ (Ev.move (Opd.mk rfl)) rfl ?_
  refine St.gf _ rfl rfl (fun hg => Ev.move (Opd.mk rfl)) rfl ?_
  refine St.gf _ rfl rfl (fun hg => Ev.gtr (Opd.gv rfl hg) (Opd.mk rfl)) rfl ?_
  refine St.ev _ (Ev.or (Opd.mk rfl) (fun hp => Opd.gv rfl hp)) rfl ?_
  refine St.nil ?_
  refine St.then_normal ?_
  refine St.cond _ rfl (fun h14 => ?_) (fun h14 => ?_)
  · skip
    try simp only [Bool.and_true, Bool.true_and, decide_eq_true_eq, decide_eq_false_iff_not, Bool.and_eq_true, Bool.or_eq_true, Bool.and_eq_false_iff, Bool.or_eq_false_iff, Bool.not_eq_true', Bool.not_eq_false', beq_iff_eq, beq_eq_false_iff_ne, Int.not_lt, Int.not_le] at h14
    refine St.seq ?_
    refine St.rg ?_
    refine St.ev _ (Ev.build (ps := []) (Opds.nil) (fun w => bld23_  w)) rfl ?_
    refine St.ev _ (Ev.build (ps := [(0, (Operand.const (Value.int IntKind.i64 18)))]) (Opds.cons (Opd.mk rfl) Opds.nil) (fun w => bld26_0 rfl w)) rfl ?_
    refine St.storeA (Opd.mk rfl) (Opd.mk rfl) sz23 (by first | simp only [List.length_cons, List.length_nil] | rfl) rfl ?_
    refine St.storeA (Opd.mk rfl) (Opd.mk rfl) sz26 (by first | simp only [List.length_cons, List.length_nil] | rfl) rfl ?_
    refine St.nil ?_
    refine St.then_normal ?_
    refine St.rett ?_
    refine St.then_ret ?_
    refine St.rets [_, _] [] Tryd.results24 ⟨⟨_, _, _, _, rfl, InB.mem, .inl ⟨⟨_, Tryd.underlying23⟩, sz23, rfl⟩⟩, ⟨⟨_, _, _, _, rfl, InB.mem, .inl ⟨⟨_, Tryd.underlying26⟩, sz26, rfl⟩⟩, trivial⟩⟩ ?_ (fun _ hw => hw.sub)
    exact fre (by unfold frOf; rw [if_pos (by omega)])
  · skip
    try simp only [Bool.and_true, Bool.true_and, decide_eq_true_eq, decide_eq_false_iff_not, Bool.and_eq_true, Bool.or_eq_true, Bool.and_eq_false_iff, Bool.or_eq_false_iff, Bool.not_eq_true', Bool.not_eq_false', beq_iff_eq, beq_eq_false_iff_ne, Int.not_lt, Int.not_le] at h14
    refine St.skip ?_
    refine St.then_normal ?_
    refine St.seq ?_
    refine St.rg ?_
    refine St.ev _ (Ev.move (Opd.mk rfl)) rfl ?_
    refine St.ev _ (Ev.convUI (Opd.mk rfl) (by rw [Tryd.underlying39]; rfl) Tryd.underlying3 (by omega)) rfl ?_
    refine St.ev _ (Ev.move (Opd.mk rfl)) rfl ?_
    refine St.ev _ (Ev.convUI (Opd.mk rfl) (by rw [Tryd.underlying39]; rfl) Tryd.underlying3 (by omega)) rfl ?_
    refine St.ev _ (Ev.build (ps := [(0, (Operand.tmp 18)), (1, (Operand.tmp 20))]) (Opds.cons (Opd.mk rfl) (Opds.cons (Opd.mk rfl) Opds.nil)) (fun w => bld23_0_1 rfl rfl w)) rfl ?_
    refine St.alloc zc23 rfl (fun b8 => ?_)
    refine St.storeA (Opd.mk rfl) (Opd.mk rfl) sz23 (by first | simp only [List.length_cons, List.length_nil] | rfl) rfl ?_
    refine St.nil ?_
    refine St.then_normal ?_
    refine St.seq ?_
    refine St.seq ?_
    refine St.rg ?_
    refine St.ev _ (Ev.move (Opd.mk rfl)) rfl ?_
    refine St.nil ?_
    refine St.then_normal ?_
    refine St.cond _ rfl (fun h22 => ?_) (fun h22 => ?_)
    · skip
      try simp only [Bool.and_true, Bool.true_and, decide_eq_true_eq, decide_eq_false_iff_not, Bool.and_eq_true, Bool.or_eq_true, Bool.and_eq_false_iff, Bool.or_eq_false_iff, Bool.not_eq_true', Bool.not_eq_false', beq_iff_eq, beq_eq_false_iff_ne, Int.not_lt, Int.not_le] at h22
      refine St.rg ?_
      refine St.ev _ (Ev.fldb0 (Opd.mk rfl) fo23_0) rfl ?_
      refine St.ev _ (Ev.ldb (Opd.mk rfl) Tryd.underlying3 trivial (by rfl)) rfl ?_
      refine St.ev _ (Ev.neg (Opd.mk rfl) (by omega)) rfl ?_
      refine St.ev _ (Ev.fldb0 (Opd.mk rfl) fo23_0) rfl ?_
      refine St.store1 (Opd.mk rfl) (Opd.mk rfl) sz3 rfl (by rfl) ?_
      refine St.nil ?_
      refine St.then_normal ?_
      refine St.seq ?_
      refine St.rg ?_
      refine St.ev _ (Ev.ldbA (Opd.mk rfl) Tryd.underlying23 trivial (by exact sz23)) rfl ?_
      refine St.ev _ (Ev.build (ps := []) (Opds.nil) (fun w => bld26_  w)) rfl ?_
      refine St.storeA (Opd.mk rfl) (Opd.mk rfl) sz23 (by first | simp only [List.length_cons, List.length_nil] | rfl) rfl ?_
      refine St.storeA (Opd.mk rfl) (Opd.mk rfl) sz26 (by first | simp only [List.length_cons, List.length_nil] | rfl) rfl ?_
      refine St.nil ?_
      refine St.then_normal ?_
      refine St.rett ?_
      refine St.rets [_, _] [] Tryd.results24 ⟨⟨_, _, _, _, rfl, InB.mem, .inl ⟨⟨_, Tryd.underlying23⟩, sz23, rfl⟩⟩, ⟨⟨_, _, _, _, rfl, InB.mem, .inl ⟨⟨_, Tryd.underlying26⟩, sz26, rfl⟩⟩, trivial⟩⟩ ?_ (fun _ hw => hw.sub)
      exact fre (by unfold frOf; rw [if_neg (by omega), h22]; rfl)
    · skip
      try simp only [Bool.and_true, Bool.true_and, decide_eq_true_eq, decide_eq_false_iff_not, Bool.and_eq_true, Bool.or_eq_true, Bool.and_eq_false_iff, Bool.or_eq_false_iff, Bool.not_eq_true', Bool.not_eq_false', beq_iff_eq, beq_eq_false_iff_ne, Int.not_lt, Int.not_le] at h22
      refine St.skip ?_
      refine St.then_normal ?_
      refine St.seq ?_
      refine St.rg ?_
      refine St.ev _ (Ev.ldbA (Opd.mk rfl) Tryd.underlying23 trivial (by exact sz23)) rfl ?_
      refine St.ev _ (Ev.build (ps := []) (Opds.nil) (fun w => bld26_  w)) rfl ?_
      refine St.storeA (Opd.mk rfl) (Opd.mk rfl) sz23 (by first | simp only [List.length_cons, List.length_nil] | rfl) rfl ?_
      refine St.storeA (Opd.mk rfl) (Opd.mk rfl) sz26 (by first | simp only [List.length_cons, List.length_nil] | rfl) rfl ?_
      refine St.nil ?_
      refine St.then_normal ?_
      refine St.rett ?_
      refine St.rets [_, _] [] Tryd.results24 ⟨⟨_, _, _, _, rfl, InB.mem, .inl ⟨⟨_, Tryd.underlying23⟩, sz23, rfl⟩⟩, ⟨⟨_, _, _, _, rfl, InB.mem, .inl ⟨⟨_, Tryd.underlying26⟩, sz26, rfl⟩⟩, trivial⟩⟩ ?_ (fun _ hw => hw.sub)
      exact fre (by unfold frOf; rw [if_neg (by omega), h22]; rfl)

theorem check_spec (n d at_ : Int) (hn : i64ok n) (hd : i64ok d) : FnV Tryd.prog 26 #[.agg #[iv n, iv d], iv at_] [] (fv (frBad n d at_)) := by
  refine FnV.body0 (args := [.agg #[iv n, iv d], iv at_]) 36 Tryd.func26 rfl Tryd.ntmps26 rfl (fun c => ?_)
  refine St.seq ?_
  refine St.rg ?_
  refine St.boxA (Opd.mk rfl) rfl (fun b2 => ?_)
  refine St.alloc zc26 rfl (fun b4 => ?_)
  refine St.nil ?_
  refine St.then_normal ?_
  refine St.seq ?_
  refine St.seq ?_
  refine St.rg ?_
  refine St.ev _ (Ev.fldb0 (Opd.mk rfl) fo23_0) rfl ?_
  refine St.ev _ (Ev.ldb (Opd.mk rfl) Tryd.underlying3 trivial (by rfl)) rfl ?_
  refine St.ev _ (Ev.lss (Opd.mk rfl) (Opd.mk rfl)) rfl ?_
  refine St.ev _ (Ev.move (Opd.mk rfl)) rfl ?_
  refine St.gf _ rfl rfl (fun hg => Ev.fldb0 (Opd.mk rfl) fo23_0) rfl ?_
  refine St.gf _ rfl rfl (fun hg => Ev.ldb (Opd.gv rfl hg) Tryd.underlying3 trivial (by rfl)) rfl ?_
  refine St.gf _ rfl rfl (fun hg => Ev.gtr (Opd.gv rfl hg) (Opd.mk rfl)) rfl ?_
  refine St.ev _ (Ev.or (Opd.mk rfl) (fun hp => Opd.gv rfl hp)) rfl ?_
  refine St.ev _ (Ev.move (Opd.mk rfl)) rfl ?_
  refine St.gf _ rfl rfl (fun hg => Ev.fldb0 (Opd.mk rfl) fo23_1) rfl ?_
  refine St.gf _ rfl rfl (fun hg => Ev.ldb (Opd.gv rfl hg) Tryd.underlying3 trivial (by rfl)) rfl ?_
  refine St.gf _ rfl rfl (fun hg => Ev.lss (Opd.gv rfl hg) (Opd.mk rfl)) rfl ?_
  refine St.ev _ (Ev.or (Opd.mk rfl) (fun hp => Opd.gv rfl hp)) rfl ?_
  refine St.ev _ (Ev.move (Opd.mk rfl)) rfl ?_
  refine St.gf _ rfl rfl (fun hg => Ev.fldb0 (Opd.mk rfl) fo23_1) rfl ?_
  refine St.gf _ rfl rfl (fun hg => Ev.ldb (Opd.gv rfl hg) Tryd.underlying3 trivial (by rfl)) rfl ?_
  refine St.gf _ rfl rfl (fun hg => Ev.gtr (Opd.gv rfl hg) (Opd.mk rfl)) rfl ?_
  refine St.ev _ (Ev.or (Opd.mk rfl) (fun hp => Opd.gv rfl hp)) rfl ?_
  refine St.nil ?_
  refine St.then_normal ?_
  refine St.cond _ rfl (fun h22 => ?_) (fun h22 => ?_)
  · skip
    try simp only [Bool.and_true, Bool.true_and, decide_eq_true_eq, decide_eq_false_iff_not, Bool.and_eq_true, Bool.or_eq_true, Bool.and_eq_false_iff, Bool.or_eq_false_iff, Bool.not_eq_true', Bool.not_eq_false', beq_iff_eq, beq_eq_false_iff_ne, Int.not_lt, Int.not_le] at h22
    refine St.seq ?_
    refine St.rg ?_
    refine St.ev _ (Ev.move (Opd.mk rfl)) rfl ?_
    refine St.ev _ (Ev.build (ps := [(0, (Operand.const (Value.int IntKind.i64 3))), (1, (Operand.tmp 23))]) (Opds.cons (Opd.mk rfl) (Opds.cons (Opd.mk rfl) Opds.nil)) (fun w => bld26_0_1 rfl rfl w)) rfl ?_
    refine St.storeA (Opd.mk rfl) (Opd.mk rfl) sz26 (by first | simp only [List.length_cons, List.length_nil] | rfl) rfl ?_
    refine St.nil ?_
    refine St.then_normal ?_
    refine St.rett ?_
    refine St.then_ret ?_
    refine St.rets [_] [] Tryd.results26 ⟨⟨_, _, _, _, rfl, InB.mem, .inl ⟨⟨_, Tryd.underlying26⟩, sz26, rfl⟩⟩, trivial⟩ ?_ (fun _ hw => hw.sub)
    exact fe (by unfold frBad; rw [if_pos (by omega)])
  · skip
    try simp only [Bool.and_true, Bool.true_and, decide_eq_true_eq, decide_eq_false_iff_not, Bool.and_eq_true, Bool.or_eq_true, Bool.and_eq_false_iff, Bool.or_eq_false_iff, Bool.not_eq_true', Bool.not_eq_false', beq_iff_eq, beq_eq_false_iff_ne, Int.not_lt, Int.not_le] at h22
    refine St.skip ?_
    refine St.then_normal ?_
    refine St.seq ?_
    refine St.seq ?_
    refine St.rq mixed (by kernel_rfl) (Mm.drawn _ _) ?_
    refine Sq.ev _ (Ev.fldb0 (Opd.mk rfl) fo23_0) rfl ?_
    refine Sq.ev _ (Ev.ldb (Opd.mk rfl) Tryd.underlying3 trivial (by rfl)) rfl ?_
    refine Sq.ev _ (Ev.call (size_spec n hn) cb22 (Opds.cons (Opd.mk rfl) Opds.nil)) rfl ?_
    refine Sq.ev _ (Ev.fldb0 (Opd.mk rfl) fo23_1) rfl ?_
    refine Sq.ev _ (Ev.ldb (Opd.mk rfl) Tryd.underlying3 trivial (by rfl)) rfl ?_
    refine Sq.ev _ (Ev.convIN (d.toNat) (Opd.mk rfl) (by rw [Tryd.underlying3]; rfl) Tryd.underlying39 (by omega)) rfl ?_
    refine Sq.ev _ (Ev.call (gcd_spec n.natAbs d.toNat) cb23 (Opds.cons (Opd.mk rfl) (Opds.cons (Opd.mk rfl) Opds.nil))) rfl ?_
    refine Sq.ev _ (Ev.neq (Opd.mk rfl) (Opd.mk rfl)) rfl ?_
    refine Sq.nil ?_
    refine St.then_normal ?_
    refine St.cond _ rfl (fun h32 => ?_) (fun h32 => ?_)
    · skip
      try simp only [Bool.and_true, Bool.true_and, decide_eq_true_eq, decide_eq_false_iff_not, Bool.and_eq_true, Bool.or_eq_true, Bool.and_eq_false_iff, Bool.or_eq_false_iff, Bool.not_eq_true', Bool.not_eq_false', beq_iff_eq, beq_eq_false_iff_ne, Int.not_lt, Int.not_le] at h32
      refine St.seq ?_
      refine St.rg ?_
      refine St.ev _ (Ev.move (Opd.mk rfl)) rfl ?_
      refine St.ev _ (Ev.build (ps := [(0, (Operand.const (Value.int IntKind.i64 5))), (1, (Operand.tmp 33))]) (Opds.cons (Opd.mk rfl) (Opds.cons (Opd.mk rfl) Opds.nil)) (fun w => bld26_0_1 rfl rfl w)) rfl ?_
      refine St.storeA (Opd.mk rfl) (Opd.mk rfl) sz26 (by first | simp only [List.length_cons, List.length_nil] | rfl) rfl ?_
      refine St.nil ?_
      refine St.then_normal ?_
      refine St.rett ?_
      refine St.then_ret ?_
      refine St.rets [_] [] Tryd.results26 ⟨⟨_, _, _, _, rfl, InB.mem, .inl ⟨⟨_, Tryd.underlying26⟩, sz26, rfl⟩⟩, trivial⟩ ?_ (fun _ hw => hw.sub)
      exact fe (by unfold frBad; rw [if_neg (by omega), if_neg (by omega)])
    · skip
      try simp only [Bool.and_true, Bool.true_and, decide_eq_true_eq, decide_eq_false_iff_not, Bool.and_eq_true, Bool.or_eq_true, Bool.and_eq_false_iff, Bool.or_eq_false_iff, Bool.not_eq_true', Bool.not_eq_false', beq_iff_eq, beq_eq_false_iff_ne, Int.not_lt, Int.not_le] at h32
      refine St.skip ?_
      refine St.then_normal ?_
      refine St.seq ?_
      refine St.rg ?_
      refine St.ev _ (Ev.build (ps := []) (Opds.nil) (fun w => bld26_  w)) rfl ?_
      refine St.storeA (Opd.mk rfl) (Opd.mk rfl) sz26 (by first | simp only [List.length_cons, List.length_nil] | rfl) rfl ?_
      refine St.nil ?_
      refine St.then_normal ?_
      refine St.rett ?_
      refine St.rets [_] [] Tryd.results26 ⟨⟨_, _, _, _, rfl, InB.mem, .inl ⟨⟨_, Tryd.underlying26⟩, sz26, rfl⟩⟩, trivial⟩ ?_ (fun _ hw => hw.sub)
      exact fe (by unfold frBad; rw [if_neg (by omega), if_pos (by omega)])

def prOk (x : Pr) : Prop := i64ok x.1 ∧ i64ok x.2
abbrev frv (x : Pr) : Value := .agg #[iv x.1, iv x.2]
theorem prOk_of {x : Pr} (h : Fr1 x) : prOk x := by
  obtain ⟨h1, h2, h3, h4, _⟩ := h
  unfold prOk i64ok; omega

theorem both_spec (x y : Pr) (hx : prOk x) (hy : prOk y) : FnV Tryd.prog 20 #[frv x, frv y] [] (fv (frBoth x y)) := by
  refine FnV.body0 (args := [frv x, frv y]) 14 Tryd.func20 rfl Tryd.ntmps20 rfl (fun c => ?_)
  refine St.seq ?_
  refine St.rg ?_
  refine St.boxA (Opd.mk rfl) rfl (fun b2 => ?_)
  refine St.boxA (Opd.mk rfl) rfl (fun b3 => ?_)
  refine St.alloc zc26 rfl (fun b4 => ?_)
  refine St.nil ?_
  refine St.then_normal ?_
  refine St.seq ?_
  refine St.seq ?_
  refine St.rg ?_
  refine St.ev _ (Ev.ldbA (Opd.mk rfl) Tryd.underlying23 trivial (by exact sz23)) rfl ?_
  refine St.ev _ (Ev.call (check_spec x.1 x.2 (-1) hx.1 hx.2) cb26 (Opds.cons (Opd.mk rfl) (Opds.cons (Opd.mk rfl) Opds.nil))) rfl ?_
  refine St.alloc zc26 rfl (fun b5 => ?_)
  refine St.storeA (Opd.mk rfl) (Opd.mk rfl) sz26 (by first | simp only [List.length_cons, List.length_nil] | rfl) rfl ?_
  refine St.nil ?_
  refine St.then_normal ?_
  refine St.seq ?_
  refine St.rg ?_
  refine St.ev _ (Ev.fldb0 (Opd.mk rfl) fo26_0) rfl ?_
  refine St.ev _ (Ev.ldb (Opd.mk rfl) Tryd.underlying3 trivial (by rfl)) rfl ?_
  refine St.ev _ (Ev.neq (Opd.mk rfl) (Opd.mk rfl)) rfl ?_
  refine St.nil ?_
  refine St.then_normal ?_
  refine St.cond _ rfl (fun h10 => ?_) (fun h10 => ?_)
  · skip
    try simp only [Bool.and_true, Bool.true_and, decide_eq_true_eq, decide_eq_false_iff_not, Bool.and_eq_true, Bool.or_eq_true, Bool.and_eq_false_iff, Bool.or_eq_false_iff, Bool.not_eq_true', Bool.not_eq_false', beq_iff_eq, beq_eq_false_iff_ne, Int.not_lt, Int.not_le] at h10
    refine St.seq ?_
    refine St.rg ?_
    refine St.ev _ (Ev.ldbA (Opd.mk rfl) Tryd.underlying26 trivial (by exact sz26)) rfl ?_
    refine St.storeA (Opd.mk rfl) (Opd.mk rfl) sz26 (by first | simp only [List.length_cons, List.length_nil] | rfl) rfl ?_
    refine St.nil ?_
    refine St.then_normal ?_
    refine St.rett ?_
    refine St.then_ret ?_
    refine St.rets [_] [] Tryd.results20 ⟨⟨_, _, _, _, rfl, InB.mem, .inl ⟨⟨_, Tryd.underlying26⟩, sz26, rfl⟩⟩, trivial⟩ ?_ (fun _ hw => hw.sub)
    exact fe (by unfold frBoth; rw [if_neg (by simpa using h10)])
  · skip
    try simp only [Bool.and_true, Bool.true_and, decide_eq_true_eq, decide_eq_false_iff_not, Bool.and_eq_true, Bool.or_eq_true, Bool.and_eq_false_iff, Bool.or_eq_false_iff, Bool.not_eq_true', Bool.not_eq_false', beq_iff_eq, beq_eq_false_iff_ne, Int.not_lt, Int.not_le] at h10
    refine St.skip ?_
    refine St.then_normal ?_
    refine St.seq ?_
    refine St.rg ?_
    refine St.ev _ (Ev.ldbA (Opd.mk rfl) Tryd.underlying23 trivial (by exact sz23)) rfl ?_
    refine St.ev _ (Ev.call (check_spec y.1 y.2 (-2) hy.1 hy.2) cb26 (Opds.cons (Opd.mk rfl) (Opds.cons (Opd.mk rfl) Opds.nil))) rfl ?_
    refine St.storeA (Opd.mk rfl) (Opd.mk rfl) sz26 (by first | simp only [List.length_cons, List.length_nil] | rfl) rfl ?_
    refine St.nil ?_
    refine St.then_normal ?_
    refine St.rett ?_
    refine St.rets [_] [] Tryd.results20 ⟨⟨_, _, _, _, rfl, InB.mem, .inl ⟨⟨_, Tryd.underlying26⟩, sz26, rfl⟩⟩, trivial⟩ ?_ (fun _ hw => hw.sub)
    exact fe (by unfold frBoth; rw [if_pos (by simpa using h10)])

theorem Validate_spec (x : Pr) (hx : prOk x) : FnV Tryd.prog 13 #[frv x] [] (fv (frBad x.1 x.2 (-1))) := by
  refine FnV.body0 (args := [frv x]) 5 Tryd.func13 rfl Tryd.ntmps13 rfl (fun c => ?_)
  refine St.seq ?_
  refine St.rg ?_
  refine St.boxA (Opd.mk rfl) rfl (fun b1 => ?_)
  refine St.alloc zc26 rfl (fun b2 => ?_)
  refine St.nil ?_
  refine St.then_normal ?_
  refine St.seq ?_
  refine St.rg ?_
  refine St.ev _ (Ev.ldbA (Opd.mk rfl) Tryd.underlying23 trivial (by exact sz23)) rfl ?_
  refine St.ev _ (Ev.call (check_spec x.1 x.2 (-1) hx.1 hx.2) cb26 (Opds.cons (Opd.mk rfl) (Opds.cons (Opd.mk rfl) Opds.nil))) rfl ?_
  refine St.storeA (Opd.mk rfl) (Opd.mk rfl) sz26 (by first | simp only [List.length_cons, List.length_nil] | rfl) rfl ?_
  refine St.nil ?_
  refine St.then_normal ?_
  refine St.rett ?_
  refine St.rets [_] [] Tryd.results13 ⟨⟨_, _, _, _, rfl, InB.mem, .inl ⟨⟨_, Tryd.underlying26⟩, sz26, rfl⟩⟩, trivial⟩ ?_ (fun _ hw => hw.sub)
  rfl

theorem Mul64_spec (a b : Nat) (ha : a < 18446744073709551616) (hb : b < 18446744073709551616) : FnV Tryd.prog 25 #[uv a, uv b] [] (.tuple #[uv (a * b / 18446744073709551616), uv (a * b % 18446744073709551616)]) := by
  refine FnV.body0 (args := [uv a, uv b]) 51 Tryd.func25 rfl Tryd.ntmps25 rfl (fun c => ?_)
  refine St.seq ?_
  refine St.rg ?_
  refine St.ev _ (Ev.assign (Opd.mk rfl)) rfl ?_
  refine St.ev _ (Ev.assign (Opd.mk rfl)) rfl ?_
  refine St.nil ?_
  refine St.then_normal ?_
  refine St.seq ?_
  obtain ⟨q1, q2, q3, q4⟩ := Lib.mul64_hi a b ha hb
  have q5 := Nat.mul_le_mul (show a / 4294967296 ≤ 4294967295 by omega) (show b / 4294967296 ≤ 4294967295 by omega)
  have q6 := Nat.mul_le_mul (show a / 4294967296 ≤ 4294967295 by omega) (show b % 4294967296 ≤ 4294967295 by omega)
  have q7 := Nat.mul_le_mul (show a % 4294967296 ≤ 4294967295 by omega) (show b / 4294967296 ≤ 4294967295 by omega)
  refine St.rg ?_
  refine St.ev _ (Ev.move (Opd.mk rfl)) rfl ?_
  refine St.ev _ (Ev.andU (b := 4294967295) 32 4294967296 (by decide) (Opd.mk rfl) (Opd.mk rfl) (⟨(by omega), by decide, by decide⟩)) rfl ?_
  refine St.ev _ (Ev.assign (Opd.mk rfl)) rfl ?_
  refine St.nil ?_
  refine St.then_normal ?_
  refine St.seq ?_
  refine St.rg ?_
  refine St.ev _ (Ev.move (Opd.mk rfl)) rfl ?_
  refine St.ev _ (Ev.shrU 32 4294967296 (by decide) (Opd.mk rfl) (Opd.mk rfl) (by decide)) rfl ?_
  refine St.ev _ (Ev.assign (Opd.mk rfl)) rfl ?_
  refine St.nil ?_
  refine St.then_normal ?_
  refine St.seq ?_
  refine St.rg ?_
  refine St.ev _ (Ev.move (Opd.mk rfl)) rfl ?_
  refine St.ev _ (Ev.andU (b := 4294967295) 32 4294967296 (by decide) (Opd.mk rfl) (Opd.mk rfl) (⟨(by omega), by decide, by decide⟩)) rfl ?_
  refine St.ev _ (Ev.assign (Opd.mk rfl)) rfl ?_
  refine St.nil ?_
  refine St.then_normal ?_
  refine St.seq ?_
  refine St.rg ?_
  refine St.ev _ (Ev.move (Opd.mk rfl)) rfl ?_
  refine St.ev _ (Ev.shrU 32 4294967296 (by decide) (Opd.mk rfl) (Opd.mk rfl) (by decide)) rfl ?_
  refine St.ev _ (Ev.assign (Opd.mk rfl)) rfl ?_
  refine St.nil ?_
  refine St.then_normal ?_
  refine St.seq ?_
  refine St.rg ?_
  refine St.ev _ (Ev.move (Opd.mk rfl)) rfl ?_
  refine St.ev _ (Ev.move (Opd.mk rfl)) rfl ?_
  refine St.ev _ (Ev.mulN (Opd.mk rfl) (Opd.mk rfl) (by omega)) rfl ?_
  refine St.ev _ (Ev.assign (Opd.mk rfl)) rfl ?_
  refine St.nil ?_
  refine St.then_normal ?_
  refine St.seq ?_
  refine St.rg ?_
  refine St.ev _ (Ev.move (Opd.mk rfl)) rfl ?_
  refine St.ev _ (Ev.move (Opd.mk rfl)) rfl ?_
  refine St.ev _ (Ev.mulN (Opd.mk rfl) (Opd.mk rfl) (by omega)) rfl ?_
  refine St.ev _ (Ev.move (Opd.mk rfl)) rfl ?_
  refine St.ev _ (Ev.shrU 32 4294967296 (by decide) (Opd.mk rfl) (Opd.mk rfl) (by decide)) rfl ?_
  refine St.ev _ (Ev.addN (Opd.mk rfl) (Opd.mk rfl) (by omega)) rfl ?_
  refine St.ev _ (Ev.assign (Opd.mk rfl)) rfl ?_
  refine St.nil ?_
  refine St.then_normal ?_
  refine St.seq ?_
  refine St.rg ?_
  refine St.ev _ (Ev.move (Opd.mk rfl)) rfl ?_
  refine St.ev _ (Ev.andU (b := 4294967295) 32 4294967296 (by decide) (Opd.mk rfl) (Opd.mk rfl) (⟨(by omega), by decide, by decide⟩)) rfl ?_
  refine St.ev _ (Ev.assign (Opd.mk rfl)) rfl ?_
  refine St.nil ?_
  refine St.then_normal ?_
  refine St.seq ?_
  refine St.rg ?_
  refine St.ev _ (Ev.move (Opd.mk rfl)) rfl ?_
  refine St.ev _ (Ev.shrU 32 4294967296 (by decide) (Opd.mk rfl) (Opd.mk rfl) (by decide)) rfl ?_
  refine St.ev _ (Ev.assign (Opd.mk rfl)) rfl ?_
  refine St.nil ?_
  refine St.then_normal ?_
  refine St.seq ?_
  refine St.rg ?_
  refine St.ev _ (Ev.move (Opd.mk rfl)) rfl ?_
  refine St.ev _ (Ev.move (Opd.mk rfl)) rfl ?_
  refine St.ev _ (Ev.move (Opd.mk rfl)) rfl ?_
  refine St.ev _ (Ev.mulN (Opd.mk rfl) (Opd.mk rfl) (by omega)) rfl ?_
  refine St.ev _ (Ev.addN (Opd.mk rfl) (Opd.mk rfl) (by omega)) rfl ?_
  refine St.ev _ (Ev.assign (Opd.mk rfl)) rfl ?_
  refine St.nil ?_
  refine St.then_normal ?_
  refine St.seq ?_
  refine St.rg ?_
  refine St.ev _ (Ev.move (Opd.mk rfl)) rfl ?_
  refine St.ev _ (Ev.move (Opd.mk rfl)) rfl ?_
  refine St.ev _ (Ev.mulN (Opd.mk rfl) (Opd.mk rfl) (by omega)) rfl ?_
  refine St.ev _ (Ev.move (Opd.mk rfl)) rfl ?_
  refine St.ev _ (Ev.addN (Opd.mk rfl) (Opd.mk rfl) (by omega)) rfl ?_
  refine St.ev _ (Ev.move (Opd.mk rfl)) rfl ?_
  refine St.ev _ (Ev.shrU 32 4294967296 (by decide) (Opd.mk rfl) (Opd.mk rfl) (by decide)) rfl ?_
  refine St.ev _ (Ev.addN (Opd.mk rfl) (Opd.mk rfl) (by omega)) rfl ?_
  refine St.ev _ (Ev.assign (Opd.mk rfl)) rfl ?_
  refine St.nil ?_
  refine St.then_normal ?_
  refine St.seq ?_
  refine St.rg ?_
  refine St.ev _ (Ev.move (Opd.mk rfl)) rfl ?_
  refine St.ev _ (Ev.move (Opd.mk rfl)) rfl ?_
  refine St.ev _ (Ev.mulU (Opd.mk rfl) (Opd.mk rfl)) rfl ?_
  refine St.ev _ (Ev.assign (Opd.mk rfl)) rfl ?_
  refine St.nil ?_
  refine St.then_normal ?_
  refine St.rett ?_
  refine St.rets [_, _] [] Tryd.results25 ⟨rfl, ⟨rfl, trivial⟩⟩ ?_ (fun _ hw => hw.sub)
  exact uve (by first | exact q4 | (rw [← q4])) rfl

theorem product_spec (a b : Nat) (ha : a < 18446744073709551616) (hb : b < 18446744073709551616) : FnV Tryd.prog 38 #[uv a, uv b] [] (.tuple #[uv (a * b % 18446744073709551616), .bool (decide (a * b ≤ 1152921504606846976))]) := by
  refine FnV.body0 (args := [uv a, uv b]) 21 Tryd.func38 rfl Tryd.ntmps38 rfl (fun c => ?_)
  refine St.seq ?_
  refine St.rg ?_
  refine St.ev _ (Ev.assign (Opd.mk rfl)) rfl ?_
  refine St.ev _ (Ev.assign (Opd.mk rfl)) rfl ?_
  refine St.nil ?_
  refine St.then_normal ?_
  refine St.seq ?_
  refine St.rg ?_
  refine St.ev _ (Ev.move (Opd.mk rfl)) rfl ?_
  refine St.ev _ (Ev.move (Opd.mk rfl)) rfl ?_
  refine St.ev _ (Ev.call (Mul64_spec a b ha hb) cb25 (Opds.cons (Opd.mk rfl) (Opds.cons (Opd.mk rfl) Opds.nil))) rfl ?_
  refine St.ev _ (Ev.move (Opd.mk rfl)) rfl ?_
  refine St.ev _ (Ev.extract (Opd.mk rfl) rfl) rfl ?_
  refine St.ev _ (Ev.extract (Opd.mk rfl) rfl) rfl ?_
  refine St.ev _ (Ev.assign (Opd.mk rfl)) rfl ?_
  refine St.ev _ (Ev.assign (Opd.mk rfl)) rfl ?_
  refine St.nil ?_
  refine St.then_normal ?_
  refine St.seq ?_
  refine St.rg ?_
  refine St.ev _ (Ev.move (Opd.mk rfl)) rfl ?_
  refine St.ev _ (Ev.move (Opd.mk rfl)) rfl ?_
  refine St.ev _ (Ev.eql (Opd.mk rfl) (Opd.mk rfl)) rfl ?_
  refine St.ev _ (Ev.move (Opd.mk rfl)) rfl ?_
  refine St.gt _ rfl rfl (fun hg => Ev.move (Opd.mk rfl)) rfl ?_
  refine St.gt _ rfl rfl (fun hg => Ev.leq (Opd.gv rfl hg) (Opd.mk rfl)) rfl ?_
  refine St.ev _ (Ev.and (Opd.mk rfl) (fun hp => Opd.gv rfl hp)) rfl ?_
  refine St.ev _ (Ev.assign (Opd.mk rfl)) rfl ?_
  refine St.ev _ (Ev.assign (Opd.mk rfl)) rfl ?_
  refine St.nil ?_
  refine St.then_normal ?_
  refine St.rett ?_
  refine St.rets [_, _] [] Tryd.results38 ⟨rfl, ⟨rfl, trivial⟩⟩ ?_ (fun _ hw => hw.sub)
  exact ube rfl (by rw [← decide_and_eq]; exact decide_eq_decide.2 (by omega))

end Go.Proofs.YteahhholjojfbaaDoor
