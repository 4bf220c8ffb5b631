/-
  The walks of the operations of the reference, of the first test, and of the sum of a list.
  Conditions: the fractions are integers of their types.
-/
import Derived.Test.YteahhholjojfbaaDoorW5
import Derived.Test.YteahhholjojfbaaDoorFracA
set_option maxRecDepth 20000
set_option linter.unusedSimpArgs false
set_option linter.unusedVariables false
namespace Go.Proofs.YteahhholjojfbaaDoor
open Go Go.J

theorem Make_spec (n d : Int) (hn : i64ok n) (hd : i64ok d) : FnV Tryd.prog 11 #[iv n, iv d] [] (frR (frMake n d)) := by
  refine FnV.body0 (args := [iv n, iv d]) 34 Tryd.func11 rfl Tryd.ntmps11 rfl (fun c => ?_)
  refine St.seq ?_
  have hn2 := hn
  have hd2 := hd
  unfold i64ok at hn2 hd2
  refine St.rg ?_
  refine St.alloc zc23 rfl (fun b4 => ?_)
  refine St.alloc zc26 rfl (fun b5 => ?_)
  refine St.nil ?_
  refine St.then_normal ?_
  refine St.seq ?_
  refine St.seq ?_
  refine St.rg ?_
  refine St.ev _ (Ev.move (Opd.mk rfl)) rfl ?_
  refine St.ev _ (Ev.eql (Opd.mk rfl) (Opd.mk rfl)) rfl ?_
  refine St.nil ?_
  refine St.then_normal ?_
  refine St.cond _ rfl (fun h10 => ?_) (fun h10 => ?_)
  · skip
    try simp only [Bool.and_true, Bool.true_and, decide_eq_true_eq, decide_eq_false_iff_not, Bool.and_eq_true, Bool.or_eq_true, Bool.and_eq_false_iff, Bool.or_eq_false_iff, Bool.not_eq_true', Bool.not_eq_false', beq_iff_eq, beq_eq_false_iff_ne, Int.not_lt, Int.not_le] at h10
    refine St.seq ?_
    refine St.rg ?_
    refine St.ev _ (Ev.build (ps := []) (Opds.nil) (fun w => bld23_  w)) rfl ?_
    refine St.ev _ (Ev.build (ps := [(0, (Operand.const (Value.int IntKind.i64 19))), (1, (Operand.const (Value.int IntKind.i64 (-2))))]) (Opds.cons (Opd.mk rfl) (Opds.cons (Opd.mk rfl) Opds.nil)) (fun w => bld26_0_1 rfl rfl w)) rfl ?_
    refine St.storeA (Opd.mk rfl) (Opd.mk rfl) sz23 (by first | simp only [List.length_cons, List.length_nil] | rfl) rfl ?_
    refine St.storeA (Opd.mk rfl) (Opd.mk rfl) sz26 (by first | simp only [List.length_cons, List.length_nil] | rfl) rfl ?_
    refine St.nil ?_
    refine St.then_normal ?_
    refine St.rett ?_
    refine St.then_ret ?_
    refine St.rets [_, _] [] Tryd.results11 ⟨⟨_, _, _, _, rfl, InB.mem, .inl ⟨⟨_, Tryd.underlying23⟩, sz23, rfl⟩⟩, ⟨⟨_, _, _, _, rfl, InB.mem, .inl ⟨⟨_, Tryd.underlying26⟩, sz26, rfl⟩⟩, trivial⟩⟩ ?_ (fun _ hw => hw.sub)
    exact fr3e (by unfold frMake; rw [if_pos h10])
  · skip
    try simp only [Bool.and_true, Bool.true_and, decide_eq_true_eq, decide_eq_false_iff_not, Bool.and_eq_true, Bool.or_eq_true, Bool.and_eq_false_iff, Bool.or_eq_false_iff, Bool.not_eq_true', Bool.not_eq_false', beq_iff_eq, beq_eq_false_iff_ne, Int.not_lt, Int.not_le] at h10
    have hg : Nat.gcd n.natAbs d.natAbs ≠ 0 := by have := Nat.gcd_pos_of_pos_right n.natAbs (show 0 < d.natAbs by omega); omega
    refine St.skip ?_
    refine St.then_normal ?_
    refine St.seq ?_
    refine St.rg ?_
    refine St.ev _ (Ev.move (Opd.mk rfl)) rfl ?_
    refine St.ev _ (Ev.call (size_spec n hn) cb22 (Opds.cons (Opd.mk rfl) Opds.nil)) rfl ?_
    refine St.ev _ (Ev.move (Opd.mk rfl)) rfl ?_
    refine St.ev _ (Ev.call (size_spec d hd) cb22 (Opds.cons (Opd.mk rfl) Opds.nil)) rfl ?_
    refine St.ev _ (Ev.assign (Opd.mk rfl)) rfl ?_
    refine St.ev _ (Ev.assign (Opd.mk rfl)) rfl ?_
    refine St.nil ?_
    refine St.then_normal ?_
    refine St.seq ?_
    refine St.rg ?_
    refine St.ev _ (Ev.move (Opd.mk rfl)) rfl ?_
    refine St.ev _ (Ev.move (Opd.mk rfl)) rfl ?_
    refine St.ev _ (Ev.call (gcd_spec n.natAbs d.natAbs) cb23 (Opds.cons (Opd.mk rfl) (Opds.cons (Opd.mk rfl) Opds.nil))) rfl ?_
    refine St.ev _ (Ev.assign (Opd.mk rfl)) rfl ?_
    refine St.nil ?_
    refine St.then_normal ?_
    refine St.seq ?_
    refine St.rqs 14 mixed (by kernel_rfl) (by kernel_rfl) (Mm.drawn _ _) ?_
    refine Sq.ev _ (Ev.move (Opd.mk rfl)) rfl ?_
    refine Sq.ev _ (Ev.lss (Opd.mk rfl) (Opd.mk rfl)) rfl ?_
    refine Sq.ev _ (Ev.move (Opd.mk rfl)) rfl ?_
    refine Sq.ev _ (Ev.lss (Opd.mk rfl) (Opd.mk rfl)) rfl ?_
    refine Sq.ev _ (Ev.boolneq (Opd.mk rfl) (Opd.mk rfl) Tryd.underlying4) rfl ?_
    refine Sq.ev _ (Ev.move (Opd.mk rfl)) rfl ?_
    refine Sq.ev _ (Ev.move (Opd.mk rfl)) rfl ?_
    refine Sq.ev _ (Ev.quoU (Opd.mk rfl) (Opd.mk rfl) (by omega)) rfl ?_
    refine Sq.ev _ (Ev.move (Opd.mk rfl)) rfl ?_
    refine Sq.ev _ (Ev.move (Opd.mk rfl)) rfl ?_
    refine Sq.ev _ (Ev.quoU (Opd.mk rfl) (Opd.mk rfl) (by omega)) rfl ?_
    refine Sq.ev _ (Ev.call (of_spec _ _ _) cb24 (Opds.cons (Opd.mk rfl) (Opds.cons (Opd.mk rfl) (Opds.cons (Opd.mk rfl) Opds.nil)))) rfl ?_
    refine Sq.ev _ (Ev.extract (Opd.mk rfl) rfl) rfl ?_
    refine Sq.ev _ (Ev.extract (Opd.mk rfl) rfl) rfl ?_
    refine Sq.tail ?_
    refine St.storeA (Opd.mk rfl) (Opd.mk rfl) sz23 (by first | simp only [List.length_cons, List.length_nil] | rfl) rfl ?_
    refine St.storeA (Opd.mk rfl) (Opd.mk rfl) sz26 (by first | simp only [List.length_cons, List.length_nil] | rfl) rfl ?_
    refine St.nil ?_
    refine St.then_normal ?_
    refine St.rett ?_
    refine St.rets [_, _] [] Tryd.results11 ⟨⟨_, _, _, _, rfl, InB.mem, .inl ⟨⟨_, Tryd.underlying23⟩, sz23, rfl⟩⟩, ⟨⟨_, _, _, _, rfl, InB.mem, .inl ⟨⟨_, Tryd.underlying26⟩, sz26, rfl⟩⟩, trivial⟩⟩ ?_ (fun _ hw => hw.sub)
    exact frR_e (by unfold frMake; rw [if_neg h10]; rfl)

theorem fracReady_spec : FnV Tryd.prog 4 #[] [] (.bool true) := by
  refine FnV.body0 (args := []) 50 Tryd.func4 rfl Tryd.ntmps4 rfl (fun c => ?_)
  refine St.seq ?_
  refine St.rg ?_
  refine St.ev _ (Ev.assign (Opd.mk rfl)) rfl ?_
  refine St.nil ?_
  refine St.then_normal ?_
  refine St.seq ?_
  refine St.rg ?_
  refine St.ev _ (Ev.build (ps := [(0, (Operand.const (Value.int IntKind.i64 1))), (1, (Operand.const (Value.int IntKind.i64 2)))]) (Opds.cons (Opd.mk rfl) (Opds.cons (Opd.mk rfl) Opds.nil)) (fun w => bld23_0_1 rfl rfl w)) rfl ?_
  refine St.ev _ (Ev.build (ps := [(0, (Operand.const (Value.int IntKind.i64 1))), (1, (Operand.const (Value.int IntKind.i64 3)))]) (Opds.cons (Opd.mk rfl) (Opds.cons (Opd.mk rfl) Opds.nil)) (fun w => bld23_0_1 rfl rfl w)) rfl ?_
  refine St.ev _ (Ev.call (Add_spec (1, 2) (1, 3) (by unfold prOk i64ok; decide) (by unfold prOk i64ok; decide)) cb10 (Opds.cons (Opd.mk rfl) (Opds.cons (Opd.mk rfl) Opds.nil))) rfl ?_
  refine St.slot 10 (.tuple #[fv (5, 6), fv (0, 0)]) rfl (by kernel_rfl) ?_
  refine St.ev _ (Ev.move (Opd.mk rfl)) rfl ?_
  refine St.ev _ (Ev.extract (Opd.mk rfl) rfl) rfl ?_
  refine St.ev _ (Ev.extract (Opd.mk rfl) rfl) rfl ?_
  refine St.alloc zc23 rfl (fun b1 => ?_)
  refine St.alloc zc26 rfl (fun b2 => ?_)
  refine St.storeA (Opd.mk rfl) (Opd.mk rfl) sz23 (by first | simp only [List.length_cons, List.length_nil] | rfl) rfl ?_
  refine St.storeA (Opd.mk rfl) (Opd.mk rfl) sz26 (by first | simp only [List.length_cons, List.length_nil] | rfl) rfl ?_
  refine St.nil ?_
  refine St.then_normal ?_
  refine St.seq ?_
  refine St.rg ?_
  refine St.ev _ (Ev.call (Make_spec 4 (-6) (by unfold i64ok; decide) (by unfold i64ok; decide)) cb11 (Opds.cons (Opd.mk rfl) (Opds.cons (Opd.mk rfl) Opds.nil))) rfl ?_
  refine St.slot 14 (.tuple #[fv (-2, 3), fv (0, 0)]) rfl (by kernel_rfl) ?_
  refine St.ev _ (Ev.move (Opd.mk rfl)) rfl ?_
  refine St.ev _ (Ev.extract (Opd.mk rfl) rfl) rfl ?_
  refine St.ev _ (Ev.extract (Opd.mk rfl) rfl) rfl ?_
  refine St.alloc zc23 rfl (fun b3 => ?_)
  refine St.alloc zc26 rfl (fun b4 => ?_)
  refine St.storeA (Opd.mk rfl) (Opd.mk rfl) sz23 (by first | simp only [List.length_cons, List.length_nil] | rfl) rfl ?_
  refine St.storeA (Opd.mk rfl) (Opd.mk rfl) sz26 (by first | simp only [List.length_cons, List.length_nil] | rfl) rfl ?_
  refine St.nil ?_
  refine St.then_normal ?_
  refine St.seq ?_
  refine St.rg ?_
  refine St.ev _ (Ev.build (ps := [(0, (Operand.const (Value.int IntKind.i64 (-1)))), (1, (Operand.const (Value.int IntKind.i64 2)))]) (Opds.cons (Opd.mk rfl) (Opds.cons (Opd.mk rfl) Opds.nil)) (fun w => bld23_0_1 rfl rfl w)) rfl ?_
  refine St.ev _ (Ev.build (ps := [(0, (Operand.const (Value.int IntKind.i64 (-1)))), (1, (Operand.const (Value.int IntKind.i64 3)))]) (Opds.cons (Opd.mk rfl) (Opds.cons (Opd.mk rfl) Opds.nil)) (fun w => bld23_0_1 rfl rfl w)) rfl ?_
  refine St.ev _ (Ev.call (Compare_spec (-1, 2) (-1, 3) (by unfold prOk i64ok; decide) (by unfold prOk i64ok; decide)) cb12 (Opds.cons (Opd.mk rfl) (Opds.cons (Opd.mk rfl) Opds.nil))) rfl ?_
  refine St.slot 20 (.tuple #[iv (-1), fv (0, 0)]) rfl (by kernel_rfl) ?_
  refine St.ev _ (Ev.move (Opd.mk rfl)) rfl ?_
  refine St.ev _ (Ev.extract (Opd.mk rfl) rfl) rfl ?_
  refine St.ev _ (Ev.extract (Opd.mk rfl) rfl) rfl ?_
  refine St.alloc zc26 rfl (fun b6 => ?_)
  refine St.ev _ (Ev.assign (Opd.mk rfl)) rfl ?_
  refine St.storeA (Opd.mk rfl) (Opd.mk rfl) sz26 (by first | simp only [List.length_cons, List.length_nil] | rfl) rfl ?_
  refine St.nil ?_
  refine St.then_normal ?_
  refine St.seq ?_
  refine St.rg ?_
  refine St.ev _ (Ev.fldb0 (Opd.mk rfl) fo26_0) rfl ?_
  refine St.ev _ (Ev.ldb (Opd.mk rfl) Tryd.underlying3 trivial (by rfl)) rfl ?_
  refine St.ev _ (Ev.eql (Opd.mk rfl) (Opd.mk rfl)) rfl ?_
  refine St.ev _ (Ev.move (Opd.mk rfl)) rfl ?_
  refine St.gt _ rfl rfl (fun hg => Ev.ldbA (Opd.mk rfl) Tryd.underlying23 trivial (by exact sz23)) rfl ?_
  refine St.gt _ rfl rfl (fun hg => Ev.build (ps := [(0, (Operand.const (Value.int IntKind.i64 5))), (1, (Operand.const (Value.int IntKind.i64 6)))]) (Opds.cons (Opd.mk rfl) (Opds.cons (Opd.mk rfl) Opds.nil)) (fun w => bld23_0_1 rfl rfl w)) rfl ?_
  refine St.gt _ rfl rfl (fun hg => Ev.structeql (Opd.gv rfl hg) (Opd.gv rfl hg) Tryd.eqGuardType23 (fun w => eqf23 _ _ _ _ w)) rfl ?_
  refine St.ev _ (Ev.and (Opd.mk rfl) (fun hp => Opd.gv rfl hp)) rfl ?_
  refine St.ev _ (Ev.move (Opd.mk rfl)) rfl ?_
  refine St.gt _ rfl rfl (fun hg => Ev.fldb0 (Opd.mk rfl) fo26_0) rfl ?_
  refine St.gt _ rfl rfl (fun hg => Ev.ldb (Opd.gv rfl hg) Tryd.underlying3 trivial (by rfl)) rfl ?_
  refine St.gt _ rfl rfl (fun hg => Ev.eql (Opd.gv rfl hg) (Opd.mk rfl)) rfl ?_
  refine St.ev _ (Ev.and (Opd.mk rfl) (fun hp => Opd.gv rfl hp)) rfl ?_
  refine St.ev _ (Ev.move (Opd.mk rfl)) rfl ?_
  refine St.gt _ rfl rfl (fun hg => Ev.ldbA (Opd.mk rfl) Tryd.underlying23 trivial (by exact sz23)) rfl ?_
  refine St.gt _ rfl rfl (fun hg => Ev.build (ps := [(0, (Operand.const (Value.int IntKind.i64 (-2)))), (1, (Operand.const (Value.int IntKind.i64 3)))]) (Opds.cons (Opd.mk rfl) (Opds.cons (Opd.mk rfl) Opds.nil)) (fun w => bld23_0_1 rfl rfl w)) rfl ?_
  refine St.gt _ rfl rfl (fun hg => Ev.structeql (Opd.gv rfl hg) (Opd.gv rfl hg) Tryd.eqGuardType23 (fun w => eqf23 _ _ _ _ w)) rfl ?_
  refine St.ev _ (Ev.and (Opd.mk rfl) (fun hp => Opd.gv rfl hp)) rfl ?_
  refine St.ev _ (Ev.move (Opd.mk rfl)) rfl ?_
  refine St.gt _ rfl rfl (fun hg => Ev.fldb0 (Opd.mk rfl) fo26_0) rfl ?_
  refine St.gt _ rfl rfl (fun hg => Ev.ldb (Opd.gv rfl hg) Tryd.underlying3 trivial (by rfl)) rfl ?_
  refine St.gt _ rfl rfl (fun hg => Ev.eql (Opd.gv rfl hg) (Opd.mk rfl)) rfl ?_
  refine St.ev _ (Ev.and (Opd.mk rfl) (fun hp => Opd.gv rfl hp)) rfl ?_
  refine St.ev _ (Ev.move (Opd.mk rfl)) rfl ?_
  refine St.gt _ rfl rfl (fun hg => Ev.move (Opd.mk rfl)) rfl ?_
  refine St.gt _ rfl rfl (fun hg => Ev.eql (Opd.gv rfl hg) (Opd.mk rfl)) rfl ?_
  refine St.ev _ (Ev.and (Opd.mk rfl) (fun hp => Opd.gv rfl hp)) rfl ?_
  refine St.ev _ (Ev.assign (Opd.mk rfl)) rfl ?_
  refine St.nil ?_
  refine St.then_normal ?_
  refine St.rett ?_
  refine St.rets [_] [] Tryd.results4 ⟨rfl, trivial⟩ ?_ (fun _ hw => hw.sub)
  exact be (by decide)

def fracR : Rp Pr := ⟨2, by decide, fun x => [iv x.1, iv x.2], prOk, fun _ => rfl, fun _ u h => by simp at h; rcases h with rfl | rfl <;> rfl⟩
instance (x : Pr) : Cel fracR x [iv x.1, iv x.2] := ⟨rfl⟩
def frChk : Int → List Pr → Pr
  | _, [] => (0, 0)
  | k, x :: l => if (frBad x.1 x.2 k).1 = 0 then frChk (k + 1) l else frBad x.1 x.2 k
def frFold : Int → Pr → List Pr → Pr × Pr
  | _, s, [] => (s, (0, 0))
  | k, s, x :: l => if (frAdd s x).2.1 = 0 then frFold (k + 1) (frAdd s x).1 l else ((0, 0), ((frAdd s x).2.1, k))
def frSum (l : List Pr) : Pr × Pr := if 300 < l.length then ((0, 0), (2, -1)) else if (frChk 0 l).1 = 0 then frFold 0 (0, 1) l else ((0, 0), frChk 0 l)
theorem frChk_step {l : List Pr} {k : Nat} {p : Pr} (h : l[k]? = some p) : frChk k (l.drop k) = if (frBad p.1 p.2 k).1 = 0 then frChk ((k + 1 : Nat) : Int) (l.drop (k + 1)) else frBad p.1 p.2 k := by
  rw [drop_of_some h, frChk, Int.natCast_add]; rfl
theorem frFold_step {l : List Pr} {k : Nat} {s p : Pr} (h : l[k]? = some p) : frFold k s (l.drop k) = if (frAdd s p).2.1 = 0 then frFold ((k + 1 : Nat) : Int) (frAdd s p).1 (l.drop (k + 1)) else ((0, 0), ((frAdd s p).2.1, (k : Int))) := by
  rw [drop_of_some h, frFold, Int.natCast_add]; rfl
theorem frChk_all : ∀ {l : List Pr} {k : Int}, (frChk k l).1 = 0 → ∀ p ∈ l, Fr1 p
  | [], _, _, p, hp => by cases hp
  | x :: l, k, h, p, hp => by
    unfold frChk at h
    by_cases h1 : (frBad x.1 x.2 k).1 = 0
    · rw [if_pos h1] at h
      rcases List.mem_cons.1 hp with rfl | hp
      · exact frBad_iff.1 h1
      · exact frChk_all h p hp
    · rw [if_neg h1] at h; exact absurd h h1
theorem one_ok : Fr1 (0, 1) := ⟨by decide, by decide, by decide, by decide, rfl⟩
theorem frSum_big {l : List Pr} (h : 300 < l.length) : frSum l = ((0, 0), (2, -1)) := by unfold frSum; rw [if_pos h]
theorem frSum_bad {l : List Pr} (h : ¬ 300 < l.length) {f : Pr} (h2 : frChk 0 l = f) (h3 : f.1 ≠ 0) : frSum l = ((0, 0), f) := by unfold frSum; rw [if_neg h, h2, if_neg h3]
theorem frSum_fold {l : List Pr} (h : ¬ 300 < l.length) (h2 : (frChk 0 l).1 = 0) : frSum l = frFold 0 (0, 1) l := by unfold frSum; rw [if_neg h, if_pos h2]
theorem frChk_end {l : List Pr} {k : Nat} (h : l.length ≤ k) (k' : Int) : frChk k' (l.drop k) = (0, 0) := by rw [List.drop_of_length_le h]; rfl
theorem frFold_end {l : List Pr} {k : Nat} (h : l.length ≤ k) (k' : Int) (s : Pr) : frFold k' s (l.drop k) = (s, (0, 0)) := by rw [List.drop_of_length_le h]; rfl
theorem fr3c {r : Pr × Pr} {a b k : Int} (h : r = ((0, 0), (a, k))) (hb : b = k) : ret1 [.agg #[iv 0, iv 0], .agg #[iv a, iv b]] = frR r := by rw [h, hb]; rfl
theorem fr3d {r : Pr × Pr} {s : Pr} (h : r = (s, (0, 0))) : ret1 [.agg #[iv s.1, iv s.2], .agg #[iv 0, iv 0]] = frR r := by rw [h]; rfl

end Go.Proofs.YteahhholjojfbaaDoor
