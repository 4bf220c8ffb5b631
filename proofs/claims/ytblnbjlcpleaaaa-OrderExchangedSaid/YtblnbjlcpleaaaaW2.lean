/-
  The walks of the looks at rows of kinds: which rule a row breaks, in the code and in the reference.
  Conditions: the rules are of the four kinds; an order holds numbers of elements.
-/
import Derived.Test.YtblnbjlcpleaaaaW1
import Derived.Test.YtblnbjlcpleaaaaJ7
import Derived.Test.YtblnbjlcpleaaaaOrdQ
set_option linter.unusedSimpArgs false
set_option linter.unusedVariables false
namespace Go.Proofs.Ytblnbjlcpleaaaa
open Go Go.J

def pv (p : Prec) : Value := .agg #[iv p.kind, sv p.a, sv p.b]
def kindOk (p : Prec) : Prop := p.kind = 1 ∨ p.kind = 2 ∨ p.kind = 3 ∨ p.kind = 4

theorem IndexS_spec (v0 : Value) (l : List Str) (x : Str) : FnV Try.prog 50 #[v0, sv x] [sl strR v0 l] (iv (ix (fun y => x == y) l)) := by
  refine FnV.body1 (args := [v0, sv x]) 19 Try.func50 rfl Try.ntmps50 rfl (fun c => ?_)
  refine St.seq ?_
  refine St.wf v0 (fun hwf hlen => ?_)
  refine St.rg ?_
  refine St.ev _ (Ev.assign (Opd.mk rfl)) rfl ?_
  refine St.nil ?_
  refine St.then_normal ?_
  refine St.seq ?_
  refine St.seq ?_
  refine St.rg ?_
  refine St.ev _ (Ev.move (Opd.mk rfl)) rfl ?_
  refine St.ev _ (Ev.lensl (Opd.mk rfl) Try.underlying23) rfl ?_
  refine St.ev _ (Ev.move (Opd.mk rfl)) rfl ?_
  refine St.nil ?_
  refine St.then_normal ?_
  refine St.block ?_
  refine St.loopS (ι := Nat) (fun k T => (8, iv k) :: T) (fun k => k ≤ l.length ∧ (l.take k).all (fun y => !(x == y)) = true) (fun k => l.length - k) 0 (Keep.cons 0 rfl (Keep.cons 1 rfl (Keep.cons 7 rfl Keep.nil))) ⟨Nat.zero_le _, rfl⟩ (by repeat (first | exact Sub.nil | refine Sub.cons (by first | rfl | exact congrArg (fun z => some (iv z)) (by first | omega | (dsimp only; omega)) | exact congrArg (fun z => some (Value.bool z)) (by first | assumption | exact Eq.symm (by assumption))) ?_)) ?_
  intro k hphi
  obtain ⟨hk, hall⟩ := hphi
  refine St.seq ?_
  refine St.rg ?_
  refine St.ev _ (Ev.lss (Opd.mk rfl) (Opd.mk rfl)) rfl ?_
  refine St.nil ?_
  refine St.then_normal ?_
  refine St.seq ?_
  refine St.cond _ rfl (fun h9 => ?_) (fun h9 => ?_)
  · skip
    try simp only [Bool.and_true, Bool.true_and, decide_eq_true_eq, decide_eq_false_iff_not, Bool.and_eq_true, Bool.or_eq_true, Bool.and_eq_false_iff, Bool.or_eq_false_iff, Bool.not_eq_true', Bool.not_eq_false', beq_iff_eq, beq_eq_false_iff_ne, Int.not_lt, Int.not_le] at h9
    refine St.skip ?_
    refine St.then_normal ?_
    refine St.seq ?_
    refine St.block ?_
    refine St.seq ?_
    refine St.rg ?_
    refine St.ev _ (Ev.move (Opd.mk rfl)) rfl ?_
    refine St.ev _ (Ev.assign (Opd.mk rfl)) rfl ?_
    refine St.nil ?_
    refine St.then_normal ?_
    refine St.seq ?_
    refine St.rg ?_
    refine St.ev _ (Ev.move (Opd.mk rfl)) rfl ?_
    refine St.ev _ (Ev.move (Opd.mk rfl)) rfl ?_
    refine St.ev _ (Ev.move (Opd.mk rfl)) rfl ?_
    refine St.ev _ (Ev.idxaddr  (Opd.mk rfl) (Opd.mk rfl) Try.underlying23 sz9 rfl (by omega)) rfl ?_
    refine St.ev _ (Ev.ld1 (Opd.mk rfl) (by first | assumption | exact some_getD [] (by omega)) Try.underlying9 trivial rfl) rfl ?_
    refine St.ev _ (Ev.streq (Opd.mk rfl) (Opd.mk rfl)) rfl ?_
    refine St.nil ?_
    refine St.then_normal ?_
    refine St.cond _ rfl (fun h16 => ?_) (fun h16 => ?_)
    · skip
      try simp only [Bool.and_true, Bool.true_and, decide_eq_true_eq, decide_eq_false_iff_not, Bool.and_eq_true, Bool.or_eq_true, Bool.and_eq_false_iff, Bool.or_eq_false_iff, Bool.not_eq_true', Bool.not_eq_false', beq_iff_eq, beq_eq_false_iff_ne, Int.not_lt, Int.not_le] at h16
      refine St.seq ?_
      refine St.rg ?_
      refine St.ev _ (Ev.move (Opd.mk rfl)) rfl ?_
      refine St.ev _ (Ev.assign (Opd.mk rfl)) rfl ?_
      refine St.nil ?_
      refine St.then_normal ?_
      refine St.rett ?_
      refine St.in_ret ?_
      refine St.then_ret ?_
      refine St.then_ret ?_
      refine St.in_ret ?_
      refine St.then_ret ?_
      refine St.rets [_] [] Try.results50 ⟨rfl, trivial⟩ ?_ (fun _ hw => hw.sub)
      exact ie (ix_found (p := fun y => x == y) hall (some_getD [] (by omega)) (by simpa using h16)).symm
    · skip
      try simp only [Bool.and_true, Bool.true_and, decide_eq_true_eq, decide_eq_false_iff_not, Bool.and_eq_true, Bool.or_eq_true, Bool.and_eq_false_iff, Bool.or_eq_false_iff, Bool.not_eq_true', Bool.not_eq_false', beq_iff_eq, beq_eq_false_iff_ne, Int.not_lt, Int.not_le] at h16
      refine St.skip ?_
      refine St.in_normal ?_
      refine St.then_normal ?_
      refine St.rg ?_
      refine St.ev _ (Ev.add (Opd.mk rfl) (Opd.mk rfl) (by omega)) rfl ?_
      refine St.ev _ (Ev.move (Opd.mk rfl)) rfl ?_
      refine St.nil ?_
      refine St.then_normal ?_
      refine St.againS (k + 1) ⟨by omega, all_take_succ (d := []) hall (by simpa using h16)⟩ (by first | omega | (dsimp only; omega)) (by repeat (first | exact Sub.nil | refine Sub.cons (by first | rfl | exact congrArg (fun z => some (iv z)) (by first | omega | (dsimp only; omega)) | exact congrArg (fun z => some (Value.bool z)) (by first | assumption | exact Eq.symm (by assumption))) ?_)) (fun _ hw => hw.sub)
  · skip
    try simp only [Bool.and_true, Bool.true_and, decide_eq_true_eq, decide_eq_false_iff_not, Bool.and_eq_true, Bool.or_eq_true, Bool.and_eq_false_iff, Bool.or_eq_false_iff, Bool.not_eq_true', Bool.not_eq_false', beq_iff_eq, beq_eq_false_iff_ne, Int.not_lt, Int.not_le] at h9
    refine St.exit ?_
    refine St.then_exit ?_
    refine St.then_exit ?_
    refine St.in_hit ?_
    refine St.then_normal ?_
    refine St.seq ?_
    refine St.rg ?_
    refine St.ev _ (Ev.assign (Opd.mk rfl)) rfl ?_
    refine St.nil ?_
    refine St.then_normal ?_
    refine St.rett ?_
    refine St.rets [_] [] Try.results50 ⟨rfl, trivial⟩ ?_ (fun _ hw => hw.sub)
    exact ie (ix_none (p := fun y => x == y) hall (by omega)).symm

theorem IndexI_spec (v0 : Value) (l : List Int) (x : Int) : FnV Try.prog 41 #[v0, iv x] [sl intR v0 l] (iv (ix (fun y => decide (x = y)) l)) := by
  refine FnV.body1 (args := [v0, iv x]) 19 Try.func41 rfl Try.ntmps41 rfl (fun c => ?_)
  refine St.seq ?_
  refine St.wf v0 (fun hwf hlen => ?_)
  refine St.rg ?_
  refine St.ev _ (Ev.assign (Opd.mk rfl)) rfl ?_
  refine St.nil ?_
  refine St.then_normal ?_
  refine St.seq ?_
  refine St.seq ?_
  refine St.rg ?_
  refine St.ev _ (Ev.move (Opd.mk rfl)) rfl ?_
  refine St.ev _ (Ev.lensl (Opd.mk rfl) Try.underlying24) rfl ?_
  refine St.ev _ (Ev.move (Opd.mk rfl)) rfl ?_
  refine St.nil ?_
  refine St.then_normal ?_
  refine St.block ?_
  refine St.loopS (ι := Nat) (fun k T => (8, iv k) :: T) (fun k => k ≤ l.length ∧ (l.take k).all (fun y => !(decide (x = y))) = true) (fun k => l.length - k) 0 (Keep.cons 0 rfl (Keep.cons 1 rfl (Keep.cons 7 rfl Keep.nil))) ⟨Nat.zero_le _, rfl⟩ (by repeat (first | exact Sub.nil | refine Sub.cons (by first | rfl | exact congrArg (fun z => some (iv z)) (by first | omega | (dsimp only; omega)) | exact congrArg (fun z => some (Value.bool z)) (by first | assumption | exact Eq.symm (by assumption))) ?_)) ?_
  intro k hphi
  obtain ⟨hk, hall⟩ := hphi
  refine St.seq ?_
  refine St.rg ?_
  refine St.ev _ (Ev.lss (Opd.mk rfl) (Opd.mk rfl)) rfl ?_
  refine St.nil ?_
  refine St.then_normal ?_
  refine St.seq ?_
  refine St.cond _ rfl (fun h9 => ?_) (fun h9 => ?_)
  · skip
    try simp only [Bool.and_true, Bool.true_and, decide_eq_true_eq, decide_eq_false_iff_not, Bool.and_eq_true, Bool.or_eq_true, Bool.and_eq_false_iff, Bool.or_eq_false_iff, Bool.not_eq_true', Bool.not_eq_false', beq_iff_eq, beq_eq_false_iff_ne, Int.not_lt, Int.not_le] at h9
    refine St.skip ?_
    refine St.then_normal ?_
    refine St.seq ?_
    refine St.block ?_
    refine St.seq ?_
    refine St.rg ?_
    refine St.ev _ (Ev.move (Opd.mk rfl)) rfl ?_
    refine St.ev _ (Ev.assign (Opd.mk rfl)) rfl ?_
    refine St.nil ?_
    refine St.then_normal ?_
    refine St.seq ?_
    refine St.rg ?_
    refine St.ev _ (Ev.move (Opd.mk rfl)) rfl ?_
    refine St.ev _ (Ev.move (Opd.mk rfl)) rfl ?_
    refine St.ev _ (Ev.move (Opd.mk rfl)) rfl ?_
    refine St.ev _ (Ev.idxaddr  (Opd.mk rfl) (Opd.mk rfl) Try.underlying24 sz3 rfl (by omega)) rfl ?_
    refine St.ev _ (Ev.ld1 (Opd.mk rfl) (by first | assumption | exact some_getD 0 (by omega)) Try.underlying3 trivial rfl) rfl ?_
    refine St.ev _ (Ev.eql (Opd.mk rfl) (Opd.mk rfl)) rfl ?_
    refine St.nil ?_
    refine St.then_normal ?_
    refine St.cond _ rfl (fun h16 => ?_) (fun h16 => ?_)
    · skip
      try simp only [Bool.and_true, Bool.true_and, decide_eq_true_eq, decide_eq_false_iff_not, Bool.and_eq_true, Bool.or_eq_true, Bool.and_eq_false_iff, Bool.or_eq_false_iff, Bool.not_eq_true', Bool.not_eq_false', beq_iff_eq, beq_eq_false_iff_ne, Int.not_lt, Int.not_le] at h16
      refine St.seq ?_
      refine St.rg ?_
      refine St.ev _ (Ev.move (Opd.mk rfl)) rfl ?_
      refine St.ev _ (Ev.assign (Opd.mk rfl)) rfl ?_
      refine St.nil ?_
      refine St.then_normal ?_
      refine St.rett ?_
      refine St.in_ret ?_
      refine St.then_ret ?_
      refine St.then_ret ?_
      refine St.in_ret ?_
      refine St.then_ret ?_
      refine St.rets [_] [] Try.results41 ⟨rfl, trivial⟩ ?_ (fun _ hw => hw.sub)
      exact ie (ix_found (p := fun y => decide (x = y)) hall (some_getD 0 (by omega)) (by simpa using h16)).symm
    · skip
      try simp only [Bool.and_true, Bool.true_and, decide_eq_true_eq, decide_eq_false_iff_not, Bool.and_eq_true, Bool.or_eq_true, Bool.and_eq_false_iff, Bool.or_eq_false_iff, Bool.not_eq_true', Bool.not_eq_false', beq_iff_eq, beq_eq_false_iff_ne, Int.not_lt, Int.not_le] at h16
      refine St.skip ?_
      refine St.in_normal ?_
      refine St.then_normal ?_
      refine St.rg ?_
      refine St.ev _ (Ev.add (Opd.mk rfl) (Opd.mk rfl) (by omega)) rfl ?_
      refine St.ev _ (Ev.move (Opd.mk rfl)) rfl ?_
      refine St.nil ?_
      refine St.then_normal ?_
      refine St.againS (k + 1) ⟨by omega, all_take_succ (d := 0) hall (by simpa using h16)⟩ (by first | omega | (dsimp only; omega)) (by repeat (first | exact Sub.nil | refine Sub.cons (by first | rfl | exact congrArg (fun z => some (iv z)) (by first | omega | (dsimp only; omega)) | exact congrArg (fun z => some (Value.bool z)) (by first | assumption | exact Eq.symm (by assumption))) ?_)) (fun _ hw => hw.sub)
  · skip
    try simp only [Bool.and_true, Bool.true_and, decide_eq_true_eq, decide_eq_false_iff_not, Bool.and_eq_true, Bool.or_eq_true, Bool.and_eq_false_iff, Bool.or_eq_false_iff, Bool.not_eq_true', Bool.not_eq_false', beq_iff_eq, beq_eq_false_iff_ne, Int.not_lt, Int.not_le] at h9
    refine St.exit ?_
    refine St.then_exit ?_
    refine St.then_exit ?_
    refine St.in_hit ?_
    refine St.then_normal ?_
    refine St.seq ?_
    refine St.rg ?_
    refine St.ev _ (Ev.assign (Opd.mk rfl)) rfl ?_
    refine St.nil ?_
    refine St.then_normal ?_
    refine St.rett ?_
    refine St.rets [_] [] Try.results41 ⟨rfl, trivial⟩ ?_ (fun _ hw => hw.sub)
    exact ie (ix_none (p := fun y => decide (x = y)) hall (by omega)).symm

theorem ContainsI_spec (v0 : Value) (l : List Int) (x : Int) : FnV Try.prog 25 #[v0, iv x] [sl intR v0 l] (.bool (l.any fun y => decide (x = y))) := by
  refine FnV.body1 (args := [v0, iv x]) 9 Try.func25 rfl Try.ntmps25 rfl (fun c => ?_)
  refine St.seq ?_
  refine St.rg ?_
  refine St.ev _ (Ev.assign (Opd.mk rfl)) rfl ?_
  refine St.nil ?_
  refine St.then_normal ?_
  refine St.seq ?_
  refine St.rg ?_
  refine St.ev _ (Ev.move (Opd.mk rfl)) rfl ?_
  refine St.ev _ (Ev.move (Opd.mk rfl)) rfl ?_
  refine St.ev _ (Ev.call (IndexI_spec v0 l x) cb41 (Opds.cons (Opd.mk rfl) (Opds.cons (Opd.mk rfl) Opds.nil))) rfl ?_
  refine St.ev _ (Ev.geq (Opd.mk rfl) (Opd.mk rfl)) rfl ?_
  refine St.ev _ (Ev.assign (Opd.mk rfl)) rfl ?_
  refine St.nil ?_
  refine St.then_normal ?_
  refine St.rett ?_
  refine St.rets [_] [] Try.results25 ⟨rfl, trivial⟩ ?_ (fun _ hw => hw.sub)
  exact be (ix_nonneg _ _)

theorem respects_spec (p : Prec) (hp : kindOk p) (v1 : Value) (row : List Str) : FnV Try.prog 44 #[pv p, v1] [sl strR v1 row] (.bool (keeps p row)) := by
  unfold pv
  refine FnV.body1 (args := [.agg #[iv p.kind, sv p.a, sv p.b], v1]) 107 Try.func44 rfl Try.ntmps44 rfl (fun c => ?_)
  refine St.seq ?_
  refine St.wf v1 (fun hwf hlen => ?_)
  refine St.rg ?_
  refine St.boxA (Opd.mk rfl) rfl (fun b2 => ?_)
  refine St.ev _ (Ev.assign (Opd.mk rfl)) rfl ?_
  refine St.nil ?_
  refine St.then_normal ?_
  refine St.seq ?_
  refine St.seq ?_
  refine St.rg ?_
  refine St.ev _ (Ev.fldb0 (Opd.mk rfl) fo34_0) rfl ?_
  refine St.ev _ (Ev.ldb (Opd.mk rfl) Try.underlying3 trivial (by rfl)) rfl ?_
  refine St.nil ?_
  refine St.then_normal ?_
  refine St.block ?_
  refine St.seq ?_
  refine St.rg ?_
  refine St.ev _ (Ev.eql (Opd.mk rfl) (Opd.mk rfl)) rfl ?_
  refine St.ev _ (Ev.assign (Opd.mk rfl)) rfl ?_
  refine St.nil ?_
  refine St.then_normal ?_
  refine St.cond _ rfl (fun h16 => ?_) (fun h16 => ?_)
  · skip
    try simp only [Bool.and_true, Bool.true_and, decide_eq_true_eq, decide_eq_false_iff_not, Bool.and_eq_true, Bool.or_eq_true, Bool.and_eq_false_iff, Bool.or_eq_false_iff, Bool.not_eq_true', Bool.not_eq_false', beq_iff_eq, beq_eq_false_iff_ne, Int.not_lt, Int.not_le] at h16
    have hp1 := h16
    refine St.seq ?_
    refine St.rg ?_
    refine St.ev _ (Ev.move (Opd.mk rfl)) rfl ?_
    refine St.ev _ (Ev.fldb0 (Opd.mk rfl) fo34_2) rfl ?_
    refine St.ev _ (Ev.ldb (Opd.mk rfl) Try.underlying9 trivial (by rfl)) rfl ?_
    refine St.ev _ (Ev.call (IndexS_spec v1 row p.b) cb50 (Opds.cons (Opd.mk rfl) (Opds.cons (Opd.mk rfl) Opds.nil))) rfl ?_
    refine St.ev _ (Ev.assign (Opd.mk rfl)) rfl ?_
    refine St.ev _ (Ev.assign (Opd.mk rfl)) rfl ?_
    refine St.nil ?_
    refine St.then_normal ?_
    refine St.seq ?_
    refine St.seq ?_
    refine St.rg ?_
    refine St.ev _ (Ev.move (Opd.mk rfl)) rfl ?_
    refine St.ev _ (Ev.lensl (Opd.mk rfl) Try.underlying23) rfl ?_
    refine St.ev _ (Ev.move (Opd.mk rfl)) rfl ?_
    refine St.nil ?_
    refine St.then_normal ?_
    refine St.block ?_
    refine St.loopS (ι := Nat) (fun k T => (24, iv k) :: (6, iv (lastTo row p.a k)) :: T) (fun k => k ≤ row.length) (fun k => row.length - k) 0 (Keep.cons 1 rfl (Keep.cons 2 rfl (Keep.cons 4 rfl (Keep.cons 5 rfl (Keep.cons 22 rfl (Keep.cons 23 rfl Keep.nil)))))) (Nat.zero_le _) (by repeat (first | exact Sub.nil | refine Sub.cons (by first | rfl | exact congrArg (fun z => some (iv z)) (by first | omega | (dsimp only; omega)) | exact congrArg (fun z => some (Value.bool z)) (by first | assumption | exact Eq.symm (by assumption))) ?_)) ?_
    intro k hphi
    have hk := hphi
    refine St.seq ?_
    refine St.rg ?_
    refine St.ev _ (Ev.lss (Opd.mk rfl) (Opd.mk rfl)) rfl ?_
    refine St.nil ?_
    refine St.then_normal ?_
    refine St.seq ?_
    refine St.cond _ rfl (fun h25 => ?_) (fun h25 => ?_)
    · skip
      try simp only [Bool.and_true, Bool.true_and, decide_eq_true_eq, decide_eq_false_iff_not, Bool.and_eq_true, Bool.or_eq_true, Bool.and_eq_false_iff, Bool.or_eq_false_iff, Bool.not_eq_true', Bool.not_eq_false', beq_iff_eq, beq_eq_false_iff_ne, Int.not_lt, Int.not_le] at h25
      refine St.skip ?_
      refine St.then_normal ?_
      refine St.seq ?_
      refine St.block ?_
      refine St.seq ?_
      refine St.rg ?_
      refine St.ev _ (Ev.move (Opd.mk rfl)) rfl ?_
      refine St.ev _ (Ev.idxaddr  (Opd.mk rfl) (Opd.mk rfl) Try.underlying23 sz9 rfl (by omega)) rfl ?_
      refine St.ev _ (Ev.ld1 (Opd.mk rfl) (by first | assumption | exact some_getD [] (by omega)) Try.underlying9 trivial rfl) rfl ?_
      refine St.ev _ (Ev.assign (Opd.mk rfl)) rfl ?_
      refine St.ev _ (Ev.assign (Opd.mk rfl)) rfl ?_
      refine St.nil ?_
      refine St.then_normal ?_
      refine St.seq ?_
      refine St.rg ?_
      refine St.ev _ (Ev.move (Opd.mk rfl)) rfl ?_
      refine St.ev _ (Ev.fldb0 (Opd.mk rfl) fo34_1) rfl ?_
      refine St.ev _ (Ev.ldb (Opd.mk rfl) Try.underlying9 trivial (by rfl)) rfl ?_
      refine St.ev _ (Ev.streq (Opd.mk rfl) (Opd.mk rfl)) rfl ?_
      refine St.nil ?_
      refine St.then_normal ?_
      refine St.cond _ rfl (fun h32 => ?_) (fun h32 => ?_)
      · skip
        try simp only [Bool.and_true, Bool.true_and, decide_eq_true_eq, decide_eq_false_iff_not, Bool.and_eq_true, Bool.or_eq_true, Bool.and_eq_false_iff, Bool.or_eq_false_iff, Bool.not_eq_true', Bool.not_eq_false', beq_iff_eq, beq_eq_false_iff_ne, Int.not_lt, Int.not_le] at h32
        have e1 := lastTo_t h32
        refine St.rg ?_
        refine St.ev _ (Ev.move (Opd.mk rfl)) rfl ?_
        refine St.ev _ (Ev.assign (Opd.mk rfl)) rfl ?_
        refine St.nil ?_
        refine St.in_normal ?_
        refine St.then_normal ?_
        refine St.rg ?_
        refine St.ev _ (Ev.add (Opd.mk rfl) (Opd.mk rfl) (by omega)) rfl ?_
        refine St.ev _ (Ev.move (Opd.mk rfl)) rfl ?_
        refine St.nil ?_
        refine St.then_normal ?_
        refine St.againS (k + 1) (by omega) (by first | omega | (dsimp only; omega)) (by repeat (first | exact Sub.nil | refine Sub.cons (by first | rfl | exact congrArg (fun z => some (iv z)) (by first | omega | (dsimp only; omega)) | exact congrArg (fun z => some (Value.bool z)) (by first | assumption | exact Eq.symm (by assumption))) ?_)) (fun _ hw => hw.sub)
      · skip
        try simp only [Bool.and_true, Bool.true_and, decide_eq_true_eq, decide_eq_false_iff_not, Bool.and_eq_true, Bool.or_eq_true, Bool.and_eq_false_iff, Bool.or_eq_false_iff, Bool.not_eq_true', Bool.not_eq_false', beq_iff_eq, beq_eq_false_iff_ne, Int.not_lt, Int.not_le] at h32
        have e1 := lastTo_f h32
        refine St.skip ?_
        refine St.in_normal ?_
        refine St.then_normal ?_
        refine St.rg ?_
        refine St.ev _ (Ev.add (Opd.mk rfl) (Opd.mk rfl) (by omega)) rfl ?_
        refine St.ev _ (Ev.move (Opd.mk rfl)) rfl ?_
        refine St.nil ?_
        refine St.then_normal ?_
        refine St.againS (k + 1) (by omega) (by first | omega | (dsimp only; omega)) (by repeat (first | exact Sub.nil | refine Sub.cons (by first | rfl | exact congrArg (fun z => some (iv z)) (by first | omega | (dsimp only; omega)) | exact congrArg (fun z => some (Value.bool z)) (by first | assumption | exact Eq.symm (by assumption))) ?_)) (fun _ hw => hw.sub)
    · skip
      try simp only [Bool.and_true, Bool.true_and, decide_eq_true_eq, decide_eq_false_iff_not, Bool.and_eq_true, Bool.or_eq_true, Bool.and_eq_false_iff, Bool.or_eq_false_iff, Bool.not_eq_true', Bool.not_eq_false', beq_iff_eq, beq_eq_false_iff_ne, Int.not_lt, Int.not_le] at h25
      obtain rfl : k = row.length := by omega
      refine St.exit ?_
      refine St.then_exit ?_
      refine St.then_exit ?_
      refine St.in_hit ?_
      refine St.then_normal ?_
      refine St.seq ?_
      refine St.seq ?_
      refine St.rg ?_
      refine St.ev _ (Ev.fldb0 (Opd.mk rfl) fo34_1) rfl ?_
      refine St.ev _ (Ev.ldb (Opd.mk rfl) Try.underlying9 trivial (by rfl)) rfl ?_
      refine St.ev _ (Ev.fldb0 (Opd.mk rfl) fo34_2) rfl ?_
      refine St.ev _ (Ev.ldb (Opd.mk rfl) Try.underlying9 trivial (by rfl)) rfl ?_
      refine St.ev _ (Ev.streq (Opd.mk rfl) (Opd.mk rfl)) rfl ?_
      refine St.nil ?_
      refine St.then_normal ?_
      refine St.cond _ rfl (fun h39 => ?_) (fun h39 => ?_)
      · skip
        try simp only [Bool.and_true, Bool.true_and, decide_eq_true_eq, decide_eq_false_iff_not, Bool.and_eq_true, Bool.or_eq_true, Bool.and_eq_false_iff, Bool.or_eq_false_iff, Bool.not_eq_true', Bool.not_eq_false', beq_iff_eq, beq_eq_false_iff_ne, Int.not_lt, Int.not_le] at h39
        refine St.seq ?_
        refine St.rg ?_
        refine St.ev _ (Ev.move (Opd.mk rfl)) rfl ?_
        refine St.ev _ (Ev.move (Opd.mk rfl)) rfl ?_
        refine St.ev _ (Ev.eql (Opd.mk rfl) (Opd.mk rfl)) rfl ?_
        refine St.ev _ (Ev.assign (Opd.mk rfl)) rfl ?_
        refine St.nil ?_
        refine St.then_normal ?_
        refine St.rett ?_
        refine St.then_ret ?_
        refine St.in_ret ?_
        refine St.then_ret ?_
        refine St.rets [_] [] Try.results44 ⟨rfl, trivial⟩ ?_ (fun _ hw => hw.sub)
        exact be (resp1' hp1 h39)
      · skip
        try simp only [Bool.and_true, Bool.true_and, decide_eq_true_eq, decide_eq_false_iff_not, Bool.and_eq_true, Bool.or_eq_true, Bool.and_eq_false_iff, Bool.or_eq_false_iff, Bool.not_eq_true', Bool.not_eq_false', beq_iff_eq, beq_eq_false_iff_ne, Int.not_lt, Int.not_le] at h39
        refine St.skip ?_
        refine St.then_normal ?_
        refine St.seq ?_
        refine St.rg ?_
        refine St.ev _ (Ev.move (Opd.mk rfl)) rfl ?_
        refine St.ev _ (Ev.lss (Opd.mk rfl) (Opd.mk rfl)) rfl ?_
        refine St.ev _ (Ev.move (Opd.mk rfl)) rfl ?_
        refine St.gf _ rfl rfl (fun hg => Ev.move (Opd.mk rfl)) rfl ?_
        refine St.gf _ rfl rfl (fun hg => Ev.move (Opd.mk rfl)) rfl ?_
        refine St.gf _ rfl rfl (fun hg => Ev.lss (Opd.gv rfl hg) (Opd.gv rfl hg)) rfl ?_
        refine St.ev _ (Ev.or (Opd.mk rfl) (fun hp => Opd.gv rfl hp)) rfl ?_
        refine St.ev _ (Ev.assign (Opd.mk rfl)) rfl ?_
        refine St.nil ?_
        refine St.then_normal ?_
        refine St.rett ?_
        refine St.in_ret ?_
        refine St.then_ret ?_
        refine St.rets [_] [] Try.results44 ⟨rfl, trivial⟩ ?_ (fun _ hw => hw.sub)
        exact be (resp1 hp1 h39)
  · skip
    try simp only [Bool.and_true, Bool.true_and, decide_eq_true_eq, decide_eq_false_iff_not, Bool.and_eq_true, Bool.or_eq_true, Bool.and_eq_false_iff, Bool.or_eq_false_iff, Bool.not_eq_true', Bool.not_eq_false', beq_iff_eq, beq_eq_false_iff_ne, Int.not_lt, Int.not_le] at h16
    have hn1 := h16
    refine St.seq ?_
    refine St.rg ?_
    refine St.ev _ (Ev.eql (Opd.mk rfl) (Opd.mk rfl)) rfl ?_
    refine St.ev _ (Ev.assign (Opd.mk rfl)) rfl ?_
    refine St.nil ?_
    refine St.then_normal ?_
    refine St.cond _ rfl (fun h50 => ?_) (fun h50 => ?_)
    · skip
      try simp only [Bool.and_true, Bool.true_and, decide_eq_true_eq, decide_eq_false_iff_not, Bool.and_eq_true, Bool.or_eq_true, Bool.and_eq_false_iff, Bool.or_eq_false_iff, Bool.not_eq_true', Bool.not_eq_false', beq_iff_eq, beq_eq_false_iff_ne, Int.not_lt, Int.not_le] at h50
      have hp2 := h50
      refine St.seq ?_
      refine St.seq ?_
      refine St.rg ?_
      refine St.ev _ (Ev.move (Opd.mk rfl)) rfl ?_
      refine St.ev _ (Ev.lensl (Opd.mk rfl) Try.underlying23) rfl ?_
      refine St.ev _ (Ev.move (Opd.mk rfl)) rfl ?_
      refine St.nil ?_
      refine St.then_normal ?_
      refine St.block ?_
      refine St.loopS (ι := Nat) (fun k T => (54, iv k) :: T) (fun k => k ≤ row.length ∧ (List.range k).all (fun i => !kp2 p row i) = true) (fun k => row.length - k) 0 (Keep.cons 1 rfl (Keep.cons 2 rfl (Keep.cons 52 rfl (Keep.cons 53 rfl Keep.nil)))) ⟨Nat.zero_le _, rfl⟩ (by repeat (first | exact Sub.nil | refine Sub.cons (by first | rfl | exact congrArg (fun z => some (iv z)) (by first | omega | (dsimp only; omega)) | exact congrArg (fun z => some (Value.bool z)) (by first | assumption | exact Eq.symm (by assumption))) ?_)) ?_
      intro k hphi
      obtain ⟨hk, hall⟩ := hphi
      refine St.seq ?_
      refine St.rg ?_
      refine St.ev _ (Ev.lss (Opd.mk rfl) (Opd.mk rfl)) rfl ?_
      refine St.nil ?_
      refine St.then_normal ?_
      refine St.seq ?_
      refine St.cond _ rfl (fun h55 => ?_) (fun h55 => ?_)
      · skip
        try simp only [Bool.and_true, Bool.true_and, decide_eq_true_eq, decide_eq_false_iff_not, Bool.and_eq_true, Bool.or_eq_true, Bool.and_eq_false_iff, Bool.or_eq_false_iff, Bool.not_eq_true', Bool.not_eq_false', beq_iff_eq, beq_eq_false_iff_ne, Int.not_lt, Int.not_le] at h55
        refine St.skip ?_
        refine St.then_normal ?_
        refine St.seq ?_
        refine St.block ?_
        refine St.seq ?_
        refine St.rg ?_
        refine St.ev _ (Ev.move (Opd.mk rfl)) rfl ?_
        refine St.ev _ (Ev.idxaddr  (Opd.mk rfl) (Opd.mk rfl) Try.underlying23 sz9 rfl (by omega)) rfl ?_
        refine St.ev _ (Ev.ld1 (Opd.mk rfl) (by first | assumption | exact some_getD [] (by omega)) Try.underlying9 trivial rfl) rfl ?_
        refine St.ev _ (Ev.assign (Opd.mk rfl)) rfl ?_
        refine St.ev _ (Ev.assign (Opd.mk rfl)) rfl ?_
        refine St.nil ?_
        refine St.then_normal ?_
        refine St.seq ?_
        refine St.rq mixed (by kernel_rfl) (Mm.drawn _ _) ?_
        refine Sq.ev _ (Ev.move (Opd.mk rfl)) rfl ?_
        refine Sq.ev _ (Ev.fldb0 (Opd.mk rfl) fo34_1) rfl ?_
        refine Sq.ev _ (Ev.ldb (Opd.mk rfl) Try.underlying9 trivial (by rfl)) rfl ?_
        refine Sq.ev _ (Ev.streq (Opd.mk rfl) (Opd.mk rfl)) rfl ?_
        refine Sq.ev _ (Ev.move (Opd.mk rfl)) rfl ?_
        refine Sq.gt _ rfl rfl (fun hg => Ev.move (Opd.mk rfl)) rfl ?_
        refine Sq.gt _ rfl rfl (fun hg => Ev.add (Opd.gv rfl hg) (Opd.mk rfl) (by first | omega | (simp only [Bool.and_true, Bool.true_and, decide_eq_true_eq, decide_eq_false_iff_not, Bool.and_eq_true, Bool.or_eq_true, Bool.and_eq_false_iff, Bool.or_eq_false_iff, Bool.not_eq_true', Bool.not_eq_false', beq_iff_eq, beq_eq_false_iff_ne, Int.not_lt, Int.not_le] at hg; omega))) rfl ?_
        refine Sq.gt _ rfl rfl (fun hg => Ev.move (Opd.mk rfl)) rfl ?_
        refine Sq.gt _ rfl rfl (fun hg => Ev.lensl (Opd.gv rfl hg) Try.underlying23) rfl ?_
        refine Sq.gt _ rfl rfl (fun hg => Ev.eql (Opd.gv rfl hg) (Opd.gv rfl hg)) rfl ?_
        refine Sq.gt _ rfl rfl (fun hg => Ev.move (Opd.gv rfl hg)) rfl ?_
        refine Sq.gcf _ rfl rfl (fun hg => Ev.move (Opd.mk rfl)) rfl ?_
        refine Sq.gcf _ rfl rfl (fun hg => Ev.move (Opd.mk rfl)) rfl ?_
        refine Sq.gcf _ rfl rfl (fun hg => Ev.add (Opd.gv rfl hg) (Opd.mk rfl) (by first | omega | (simp only [Bool.and_true, Bool.true_and, decide_eq_true_eq, decide_eq_false_iff_not, Bool.and_eq_true, Bool.or_eq_true, Bool.and_eq_false_iff, Bool.or_eq_false_iff, Bool.not_eq_true', Bool.not_eq_false', beq_iff_eq, beq_eq_false_iff_ne, Int.not_lt, Int.not_le] at hg; omega))) rfl ?_
        refine Sq.gcf _ rfl rfl (fun hg => Ev.idxaddr (k := (k + 1)) (Opd.gv rfl hg) (Opd.gv rfl hg) Try.underlying23 sz9 (by first | omega | (simp only [Bool.and_true, Bool.true_and, decide_eq_true_eq, decide_eq_false_iff_not, Bool.and_eq_true, Bool.or_eq_true, Bool.and_eq_false_iff, Bool.or_eq_false_iff, Bool.not_eq_true', Bool.not_eq_false', beq_iff_eq, beq_eq_false_iff_ne, Int.not_lt, Int.not_le] at hg; omega)) (by first | omega | (simp only [Bool.and_true, Bool.true_and, decide_eq_true_eq, decide_eq_false_iff_not, Bool.and_eq_true, Bool.or_eq_true, Bool.and_eq_false_iff, Bool.or_eq_false_iff, Bool.not_eq_true', Bool.not_eq_false', beq_iff_eq, beq_eq_false_iff_ne, Int.not_lt, Int.not_le] at hg; omega))) rfl ?_
        refine Sq.gcf _ rfl rfl (fun hg => Ev.ld1 (Opd.gv rfl hg) (some_getD [] (by first | omega | (simp only [Bool.and_true, Bool.true_and, decide_eq_true_eq, decide_eq_false_iff_not, Bool.and_eq_true, Bool.or_eq_true, Bool.and_eq_false_iff, Bool.or_eq_false_iff, Bool.not_eq_true', Bool.not_eq_false', beq_iff_eq, beq_eq_false_iff_ne, Int.not_lt, Int.not_le] at hg; omega))) Try.underlying9 trivial rfl) rfl ?_
        refine Sq.gcf _ rfl rfl (fun hg => Ev.fldb0 (Opd.mk rfl) fo34_2) rfl ?_
        refine Sq.gcf _ rfl rfl (fun hg => Ev.ldb (Opd.gv rfl hg) Try.underlying9 trivial (by rfl)) rfl ?_
        refine Sq.gcf _ rfl rfl (fun hg => Ev.strne (Opd.gv rfl hg) (Opd.gv rfl hg)) rfl ?_
        refine Sq.gt _ rfl rfl (fun hg => Ev.or (Opd.gv rfl hg) (fun hp => Opd.gv rfl (and_i hg hp))) rfl ?_
        refine Sq.ev _ (Ev.and (Opd.mk rfl) (fun hp => Opd.gv rfl hp)) rfl ?_
        refine Sq.nil ?_
        refine St.then_normal ?_
        refine St.cond _ rfl (fun h79 => ?_) (fun h79 => ?_)
        · skip
          skip
          refine St.seq ?_
          refine St.rg ?_
          refine St.ev _ (Ev.assign (Opd.mk rfl)) rfl ?_
          refine St.nil ?_
          refine St.then_normal ?_
          refine St.rett ?_
          refine St.in_ret ?_
          refine St.then_ret ?_
          refine St.then_ret ?_
          refine St.in_ret ?_
          refine St.then_ret ?_
          refine St.in_ret ?_
          refine St.then_ret ?_
          refine St.rets [_] [] Try.results44 ⟨rfl, trivial⟩ ?_ (fun _ hw => hw.sub)
          exact be ((keeps2 hp2).trans (all_range_false (k := k) (by omega) (kp2_yes hp2 (by omega) h79))).symm
        · skip
          skip
          refine St.skip ?_
          refine St.in_normal ?_
          refine St.then_normal ?_
          refine St.rg ?_
          refine St.ev _ (Ev.add (Opd.mk rfl) (Opd.mk rfl) (by omega)) rfl ?_
          refine St.ev _ (Ev.move (Opd.mk rfl)) rfl ?_
          refine St.nil ?_
          refine St.then_normal ?_
          refine St.againS (k + 1) ⟨by omega, all_range_succ hall (kp2_no hp2 (by omega) h79)⟩ (by first | omega | (dsimp only; omega)) (by repeat (first | exact Sub.nil | refine Sub.cons (by first | rfl | exact congrArg (fun z => some (iv z)) (by first | omega | (dsimp only; omega)) | exact congrArg (fun z => some (Value.bool z)) (by first | assumption | exact Eq.symm (by assumption))) ?_)) (fun _ hw => hw.sub)
      · skip
        try simp only [Bool.and_true, Bool.true_and, decide_eq_true_eq, decide_eq_false_iff_not, Bool.and_eq_true, Bool.or_eq_true, Bool.and_eq_false_iff, Bool.or_eq_false_iff, Bool.not_eq_true', Bool.not_eq_false', beq_iff_eq, beq_eq_false_iff_ne, Int.not_lt, Int.not_le] at h55
        refine St.exit ?_
        refine St.then_exit ?_
        refine St.then_exit ?_
        refine St.in_hit ?_
        refine St.then_normal ?_
        refine St.seq ?_
        refine St.rg ?_
        refine St.ev _ (Ev.assign (Opd.mk rfl)) rfl ?_
        refine St.nil ?_
        refine St.then_normal ?_
        refine St.rett ?_
        refine St.in_ret ?_
        refine St.then_ret ?_
        refine St.rets [_] [] Try.results44 ⟨rfl, trivial⟩ ?_ (fun _ hw => hw.sub)
        exact be ((keeps2 hp2).trans (by rw [show row.length = k by omega]; exact hall)).symm
    · skip
      try simp only [Bool.and_true, Bool.true_and, decide_eq_true_eq, decide_eq_false_iff_not, Bool.and_eq_true, Bool.or_eq_true, Bool.and_eq_false_iff, Bool.or_eq_false_iff, Bool.not_eq_true', Bool.not_eq_false', beq_iff_eq, beq_eq_false_iff_ne, Int.not_lt, Int.not_le] at h50
      have hp34 : p.kind = 3 ∨ p.kind = 4 := by unfold kindOk at hp; omega
      refine St.skip ?_
      refine St.in_normal ?_
      refine St.then_normal ?_
      refine St.seq ?_
      refine St.rg ?_
      refine St.ev _ (Ev.assign (Opd.mk rfl)) rfl ?_
      refine St.nil ?_
      refine St.then_normal ?_
      refine St.seq ?_
      refine St.seq ?_
      refine St.rg ?_
      refine St.ev _ (Ev.move (Opd.mk rfl)) rfl ?_
      refine St.ev _ (Ev.lensl (Opd.mk rfl) Try.underlying23) rfl ?_
      refine St.ev _ (Ev.move (Opd.mk rfl)) rfl ?_
      refine St.nil ?_
      refine St.then_normal ?_
      refine St.block ?_
      refine St.loopS (ι := Nat) (fun k T => (83, iv k) :: (11, .bool (seenTo p row k)) :: T) (fun k => k ≤ row.length ∧ noneTo p row k = true) (fun k => row.length - k) 0 (Keep.cons 1 rfl (Keep.cons 2 rfl (Keep.cons 82 rfl Keep.nil))) ⟨Nat.zero_le _, rfl⟩ (by repeat (first | exact Sub.nil | refine Sub.cons (by first | rfl | exact congrArg (fun z => some (iv z)) (by first | omega | (dsimp only; omega)) | exact congrArg (fun z => some (Value.bool z)) (by first | assumption | exact Eq.symm (by assumption))) ?_)) ?_
      intro k hphi
      obtain ⟨hk, hall⟩ := hphi
      refine St.seq ?_
      refine St.rg ?_
      refine St.ev _ (Ev.lss (Opd.mk rfl) (Opd.mk rfl)) rfl ?_
      refine St.nil ?_
      refine St.then_normal ?_
      refine St.seq ?_
      refine St.cond _ rfl (fun h84 => ?_) (fun h84 => ?_)
      · skip
        try simp only [Bool.and_true, Bool.true_and, decide_eq_true_eq, decide_eq_false_iff_not, Bool.and_eq_true, Bool.or_eq_true, Bool.and_eq_false_iff, Bool.or_eq_false_iff, Bool.not_eq_true', Bool.not_eq_false', beq_iff_eq, beq_eq_false_iff_ne, Int.not_lt, Int.not_le] at h84
        refine St.skip ?_
        refine St.then_normal ?_
        refine St.seq ?_
        refine St.block ?_
        refine St.seq ?_
        refine St.rg ?_
        refine St.ev _ (Ev.move (Opd.mk rfl)) rfl ?_
        refine St.ev _ (Ev.assign (Opd.mk rfl)) rfl ?_
        refine St.nil ?_
        refine St.then_normal ?_
        refine St.seq ?_
        refine St.rg ?_
        refine St.ev _ (Ev.move (Opd.mk rfl)) rfl ?_
        refine St.ev _ (Ev.move (Opd.mk rfl)) rfl ?_
        refine St.ev _ (Ev.idxaddr  (Opd.mk rfl) (Opd.mk rfl) Try.underlying23 sz9 rfl (by omega)) rfl ?_
        refine St.ev _ (Ev.ld1 (Opd.mk rfl) (by first | assumption | exact some_getD [] (by omega)) Try.underlying9 trivial rfl) rfl ?_
        refine St.ev _ (Ev.assign (Opd.mk rfl)) rfl ?_
        refine St.nil ?_
        refine St.then_normal ?_
        refine St.seq ?_
        refine St.seq ?_
        refine St.rg ?_
        refine St.ev _ (Ev.fldb0 (Opd.mk rfl) fo34_0) rfl ?_
        refine St.ev _ (Ev.ldb (Opd.mk rfl) Try.underlying3 trivial (by rfl)) rfl ?_
        refine St.ev _ (Ev.eql (Opd.mk rfl) (Opd.mk rfl)) rfl ?_
        refine St.nil ?_
        refine St.then_normal ?_
        refine St.cond _ rfl (fun h92 => ?_) (fun h92 => ?_)
        · skip
          try simp only [Bool.and_true, Bool.true_and, decide_eq_true_eq, decide_eq_false_iff_not, Bool.and_eq_true, Bool.or_eq_true, Bool.and_eq_false_iff, Bool.or_eq_false_iff, Bool.not_eq_true', Bool.not_eq_false', beq_iff_eq, beq_eq_false_iff_ne, Int.not_lt, Int.not_le] at h92
          have hrow : J.rowAt p row k = row.getD (row.length - 1 - k) [] := by simp only [J.rowAt, h92, if_true]
          refine St.rg ?_
          refine St.ev _ (Ev.move (Opd.mk rfl)) rfl ?_
          refine St.ev _ (Ev.move (Opd.mk rfl)) rfl ?_
          refine St.ev _ (Ev.lensl (Opd.mk rfl) Try.underlying23) rfl ?_
          refine St.ev _ (Ev.sub (Opd.mk rfl) (Opd.mk rfl) (by omega)) rfl ?_
          refine St.ev _ (Ev.move (Opd.mk rfl)) rfl ?_
          refine St.ev _ (Ev.sub (Opd.mk rfl) (Opd.mk rfl) (by omega)) rfl ?_
          refine St.ev _ (Ev.idxaddr (k := (row.length - 1 - k)) (Opd.mk rfl) (Opd.mk rfl) Try.underlying23 sz9 (by omega) (by omega)) rfl ?_
          refine St.ev _ (Ev.ld1 (Opd.mk rfl) (by first | assumption | exact some_getD [] (by omega)) Try.underlying9 trivial rfl) rfl ?_
          refine St.ev _ (Ev.assign (Opd.mk rfl)) rfl ?_
          refine St.nil ?_
          refine St.then_normal ?_
          refine St.seq ?_
          refine St.rg ?_
          refine St.ev _ (Ev.move (Opd.mk rfl)) rfl ?_
          refine St.ev _ (Ev.fldb0 (Opd.mk rfl) fo34_1) rfl ?_
          refine St.ev _ (Ev.ldb (Opd.mk rfl) Try.underlying9 trivial (by rfl)) rfl ?_
          refine St.ev _ (Ev.strne (Opd.mk rfl) (Opd.mk rfl)) rfl ?_
          refine St.nil ?_
          refine St.then_normal ?_
          refine St.cond _ rfl (fun h104 => ?_) (fun h104 => ?_)
          · skip
            try simp only [Bool.and_true, Bool.true_and, decide_eq_true_eq, decide_eq_false_iff_not, Bool.and_eq_true, Bool.or_eq_true, Bool.and_eq_false_iff, Bool.or_eq_false_iff, Bool.not_eq_true', Bool.not_eq_false', beq_iff_eq, beq_eq_false_iff_ne, Int.not_lt, Int.not_le] at h104
            have hne : ¬ J.rowAt p row k = p.a := by rw [hrow]; exact h104
            have es := seenTo_t hne
            refine St.rg ?_
            refine St.ev _ (Ev.assign (Opd.mk rfl)) rfl ?_
            refine St.nil ?_
            refine St.in_normal ?_
            refine St.then_normal ?_
            refine St.rg ?_
            refine St.ev _ (Ev.add (Opd.mk rfl) (Opd.mk rfl) (by omega)) rfl ?_
            refine St.ev _ (Ev.move (Opd.mk rfl)) rfl ?_
            refine St.nil ?_
            refine St.then_normal ?_
            have hy := @noneTo_succ p row k hall
            refine St.againS (k + 1) ⟨by omega, hy (by first | (left; exact hne) | (right; exact h105))⟩ (by first | omega | (dsimp only; omega)) (by repeat (first | exact Sub.nil | refine Sub.cons (by first | rfl | exact congrArg (fun z => some (iv z)) (by first | omega | (dsimp only; omega)) | exact congrArg (fun z => some (Value.bool z)) (by first | assumption | exact Eq.symm (by assumption))) ?_)) (fun _ hw => hw.sub)
          · skip
            try simp only [Bool.and_true, Bool.true_and, decide_eq_true_eq, decide_eq_false_iff_not, Bool.and_eq_true, Bool.or_eq_true, Bool.and_eq_false_iff, Bool.or_eq_false_iff, Bool.not_eq_true', Bool.not_eq_false', beq_iff_eq, beq_eq_false_iff_ne, Int.not_lt, Int.not_le] at h104
            have heq : J.rowAt p row k = p.a := by rw [hrow]; exact h104
            have es := seenTo_f heq
            refine St.seq ?_
            refine St.rg ?_
            refine St.ev _ (Ev.move (Opd.mk rfl)) rfl ?_
            refine St.nil ?_
            refine St.then_normal ?_
            refine St.cond _ rfl (fun h105 => ?_) (fun h105 => ?_)
            · skip
              try simp only [Bool.and_true, Bool.true_and, decide_eq_true_eq, decide_eq_false_iff_not, Bool.and_eq_true, Bool.or_eq_true, Bool.and_eq_false_iff, Bool.or_eq_false_iff, Bool.not_eq_true', Bool.not_eq_false', beq_iff_eq, beq_eq_false_iff_ne, Int.not_lt, Int.not_le] at h105
              refine St.seq ?_
              refine St.rg ?_
              refine St.ev _ (Ev.assign (Opd.mk rfl)) rfl ?_
              refine St.nil ?_
              refine St.then_normal ?_
              refine St.rett ?_
              refine St.in_ret ?_
              refine St.then_ret ?_
              refine St.then_ret ?_
              refine St.in_ret ?_
              refine St.then_ret ?_
              refine St.rets [_] [] Try.results44 ⟨rfl, trivial⟩ ?_ (fun _ hw => hw.sub)
              exact be ((keeps34 hp34).trans (all_range_false (k := k) (by omega) (by simp [heq, h105]))).symm
            · skip
              try simp only [Bool.and_true, Bool.true_and, decide_eq_true_eq, decide_eq_false_iff_not, Bool.and_eq_true, Bool.or_eq_true, Bool.and_eq_false_iff, Bool.or_eq_false_iff, Bool.not_eq_true', Bool.not_eq_false', beq_iff_eq, beq_eq_false_iff_ne, Int.not_lt, Int.not_le] at h105
              refine St.skip ?_
              refine St.in_normal ?_
              refine St.then_normal ?_
              refine St.rg ?_
              refine St.ev _ (Ev.add (Opd.mk rfl) (Opd.mk rfl) (by omega)) rfl ?_
              refine St.ev _ (Ev.move (Opd.mk rfl)) rfl ?_
              refine St.nil ?_
              refine St.then_normal ?_
              have hy := @noneTo_succ p row k hall
              refine St.againS (k + 1) ⟨by omega, hy (by first | (left; exact hne) | (right; exact h105))⟩ (by first | omega | (dsimp only; omega)) (by repeat (first | exact Sub.nil | refine Sub.cons (by first | rfl | exact congrArg (fun z => some (iv z)) (by first | omega | (dsimp only; omega)) | exact congrArg (fun z => some (Value.bool z)) (by first | assumption | exact Eq.symm (by assumption))) ?_)) (fun _ hw => hw.sub)
        · skip
          try simp only [Bool.and_true, Bool.true_and, decide_eq_true_eq, decide_eq_false_iff_not, Bool.and_eq_true, Bool.or_eq_true, Bool.and_eq_false_iff, Bool.or_eq_false_iff, Bool.not_eq_true', Bool.not_eq_false', beq_iff_eq, beq_eq_false_iff_ne, Int.not_lt, Int.not_le] at h92
          have hrow : J.rowAt p row k = row.getD k [] := by simp only [J.rowAt, h92, if_false]
          refine St.skip ?_
          refine St.then_normal ?_
          refine St.seq ?_
          refine St.rg ?_
          refine St.ev _ (Ev.move (Opd.mk rfl)) rfl ?_
          refine St.ev _ (Ev.fldb0 (Opd.mk rfl) fo34_1) rfl ?_
          refine St.ev _ (Ev.ldb (Opd.mk rfl) Try.underlying9 trivial (by rfl)) rfl ?_
          refine St.ev _ (Ev.strne (Opd.mk rfl) (Opd.mk rfl)) rfl ?_
          refine St.nil ?_
          refine St.then_normal ?_
          refine St.cond _ rfl (fun h104 => ?_) (fun h104 => ?_)
          · skip
            try simp only [Bool.and_true, Bool.true_and, decide_eq_true_eq, decide_eq_false_iff_not, Bool.and_eq_true, Bool.or_eq_true, Bool.and_eq_false_iff, Bool.or_eq_false_iff, Bool.not_eq_true', Bool.not_eq_false', beq_iff_eq, beq_eq_false_iff_ne, Int.not_lt, Int.not_le] at h104
            have hne : ¬ J.rowAt p row k = p.a := by rw [hrow]; exact h104
            have es := seenTo_t hne
            refine St.rg ?_
            refine St.ev _ (Ev.assign (Opd.mk rfl)) rfl ?_
            refine St.nil ?_
            refine St.in_normal ?_
            refine St.then_normal ?_
            refine St.rg ?_
            refine St.ev _ (Ev.add (Opd.mk rfl) (Opd.mk rfl) (by omega)) rfl ?_
            refine St.ev _ (Ev.move (Opd.mk rfl)) rfl ?_
            refine St.nil ?_
            refine St.then_normal ?_
            have hy := @noneTo_succ p row k hall
            refine St.againS (k + 1) ⟨by omega, hy (by first | (left; exact hne) | (right; exact h105))⟩ (by first | omega | (dsimp only; omega)) (by repeat (first | exact Sub.nil | refine Sub.cons (by first | rfl | exact congrArg (fun z => some (iv z)) (by first | omega | (dsimp only; omega)) | exact congrArg (fun z => some (Value.bool z)) (by first | assumption | exact Eq.symm (by assumption))) ?_)) (fun _ hw => hw.sub)
          · skip
            try simp only [Bool.and_true, Bool.true_and, decide_eq_true_eq, decide_eq_false_iff_not, Bool.and_eq_true, Bool.or_eq_true, Bool.and_eq_false_iff, Bool.or_eq_false_iff, Bool.not_eq_true', Bool.not_eq_false', beq_iff_eq, beq_eq_false_iff_ne, Int.not_lt, Int.not_le] at h104
            have heq : J.rowAt p row k = p.a := by rw [hrow]; exact h104
            have es := seenTo_f heq
            refine St.seq ?_
            refine St.rg ?_
            refine St.ev _ (Ev.move (Opd.mk rfl)) rfl ?_
            refine St.nil ?_
            refine St.then_normal ?_
            refine St.cond _ rfl (fun h105 => ?_) (fun h105 => ?_)
            · skip
              try simp only [Bool.and_true, Bool.true_and, decide_eq_true_eq, decide_eq_false_iff_not, Bool.and_eq_true, Bool.or_eq_true, Bool.and_eq_false_iff, Bool.or_eq_false_iff, Bool.not_eq_true', Bool.not_eq_false', beq_iff_eq, beq_eq_false_iff_ne, Int.not_lt, Int.not_le] at h105
              refine St.seq ?_
              refine St.rg ?_
              refine St.ev _ (Ev.assign (Opd.mk rfl)) rfl ?_
              refine St.nil ?_
              refine St.then_normal ?_
              refine St.rett ?_
              refine St.in_ret ?_
              refine St.then_ret ?_
              refine St.then_ret ?_
              refine St.in_ret ?_
              refine St.then_ret ?_
              refine St.rets [_] [] Try.results44 ⟨rfl, trivial⟩ ?_ (fun _ hw => hw.sub)
              exact be ((keeps34 hp34).trans (all_range_false (k := k) (by omega) (by simp [heq, h105]))).symm
            · skip
              try simp only [Bool.and_true, Bool.true_and, decide_eq_true_eq, decide_eq_false_iff_not, Bool.and_eq_true, Bool.or_eq_true, Bool.and_eq_false_iff, Bool.or_eq_false_iff, Bool.not_eq_true', Bool.not_eq_false', beq_iff_eq, beq_eq_false_iff_ne, Int.not_lt, Int.not_le] at h105
              refine St.skip ?_
              refine St.in_normal ?_
              refine St.then_normal ?_
              refine St.rg ?_
              refine St.ev _ (Ev.add (Opd.mk rfl) (Opd.mk rfl) (by omega)) rfl ?_
              refine St.ev _ (Ev.move (Opd.mk rfl)) rfl ?_
              refine St.nil ?_
              refine St.then_normal ?_
              have hy := @noneTo_succ p row k hall
              refine St.againS (k + 1) ⟨by omega, hy (by first | (left; exact hne) | (right; exact h105))⟩ (by first | omega | (dsimp only; omega)) (by repeat (first | exact Sub.nil | refine Sub.cons (by first | rfl | exact congrArg (fun z => some (iv z)) (by first | omega | (dsimp only; omega)) | exact congrArg (fun z => some (Value.bool z)) (by first | assumption | exact Eq.symm (by assumption))) ?_)) (fun _ hw => hw.sub)
      · skip
        try simp only [Bool.and_true, Bool.true_and, decide_eq_true_eq, decide_eq_false_iff_not, Bool.and_eq_true, Bool.or_eq_true, Bool.and_eq_false_iff, Bool.or_eq_false_iff, Bool.not_eq_true', Bool.not_eq_false', beq_iff_eq, beq_eq_false_iff_ne, Int.not_lt, Int.not_le] at h84
        refine St.exit ?_
        refine St.then_exit ?_
        refine St.then_exit ?_
        refine St.in_hit ?_
        refine St.then_normal ?_
        refine St.seq ?_
        refine St.rg ?_
        refine St.ev _ (Ev.assign (Opd.mk rfl)) rfl ?_
        refine St.nil ?_
        refine St.then_normal ?_
        refine St.rett ?_
        refine St.rets [_] [] Try.results44 ⟨rfl, trivial⟩ ?_ (fun _ hw => hw.sub)
        exact be ((keeps34 hp34).trans (by rw [show row.length = k by omega]; exact hall)).symm

theorem OrderKeeps_spec (p : Prec) (v1 : Value) (row : List Str) : FnV Try.prog 28 #[pv p, v1] [sl strR v1 row] (.bool (keeps p row)) := by
  unfold pv
  refine FnV.body1 (args := [.agg #[iv p.kind, sv p.a, sv p.b], v1]) 129 Try.func28 rfl Try.ntmps28 rfl (fun c => ?_)
  refine St.seq ?_
  refine St.wf v1 (fun hwf hlen => ?_)
  refine St.rg ?_
  refine St.boxA (Opd.mk rfl) rfl (fun b2 => ?_)
  refine St.ev _ (Ev.assign (Opd.mk rfl)) rfl ?_
  refine St.nil ?_
  refine St.then_normal ?_
  refine St.seq ?_
  refine St.seq ?_
  refine St.rg ?_
  refine St.ev _ (Ev.assign (Opd.mk rfl)) rfl ?_
  refine St.nil ?_
  refine St.then_normal ?_
  refine St.block ?_
  refine St.loopS (ι := Nat) (fun i T => (5, iv i) :: T) (fun i => i ≤ row.length ∧ (List.range i).all (okAt p row) = true) (fun i => row.length - i) 0 (Keep.cons 1 rfl (Keep.cons 2 rfl Keep.nil)) ⟨Nat.zero_le _, rfl⟩ (by repeat (first | exact Sub.nil | refine Sub.cons (by first | rfl | exact congrArg (fun z => some (iv z)) (by first | omega | (dsimp only; omega)) | exact congrArg (fun z => some (Value.bool z)) (by first | assumption | exact Eq.symm (by assumption))) ?_)) ?_
  intro i hphi
  obtain ⟨hi, hout⟩ := hphi
  refine St.seq ?_
  refine St.seq ?_
  refine St.rg ?_
  refine St.ev _ (Ev.move (Opd.mk rfl)) rfl ?_
  refine St.ev _ (Ev.move (Opd.mk rfl)) rfl ?_
  refine St.ev _ (Ev.lensl (Opd.mk rfl) Try.underlying23) rfl ?_
  refine St.ev _ (Ev.lss (Opd.mk rfl) (Opd.mk rfl)) rfl ?_
  refine St.nil ?_
  refine St.then_normal ?_
  refine St.cond _ rfl (fun h10 => ?_) (fun h10 => ?_)
  · skip
    try simp only [Bool.and_true, Bool.true_and, decide_eq_true_eq, decide_eq_false_iff_not, Bool.and_eq_true, Bool.or_eq_true, Bool.and_eq_false_iff, Bool.or_eq_false_iff, Bool.not_eq_true', Bool.not_eq_false', beq_iff_eq, beq_eq_false_iff_ne, Int.not_lt, Int.not_le] at h10
    refine St.skip ?_
    refine St.then_normal ?_
    refine St.seq ?_
    refine St.block ?_
    refine St.seq ?_
    refine St.seq ?_
    refine St.rg ?_
    refine St.ev _ (Ev.assign (Opd.mk rfl)) rfl ?_
    refine St.nil ?_
    refine St.then_normal ?_
    refine St.block ?_
    refine St.loopS (ι := Nat) (fun k T => (6, iv k) :: T) (fun k => k ≤ row.length ∧ (List.range k).all (okPair p row i) = true) (fun k => row.length - k) 0 (Keep.cons 1 rfl (Keep.cons 2 rfl (Keep.cons 5 rfl Keep.nil))) ⟨Nat.zero_le _, rfl⟩ (by repeat (first | exact Sub.nil | refine Sub.cons (by first | rfl | exact congrArg (fun z => some (iv z)) (by first | omega | (dsimp only; omega)) | exact congrArg (fun z => some (Value.bool z)) (by first | assumption | exact Eq.symm (by assumption))) ?_)) ?_
    intro k hphi
    obtain ⟨hk, hall⟩ := hphi
    refine St.seq ?_
    refine St.seq ?_
    refine St.rg ?_
    refine St.ev _ (Ev.move (Opd.mk rfl)) rfl ?_
    refine St.ev _ (Ev.move (Opd.mk rfl)) rfl ?_
    refine St.ev _ (Ev.lensl (Opd.mk rfl) Try.underlying23) rfl ?_
    refine St.ev _ (Ev.lss (Opd.mk rfl) (Opd.mk rfl)) rfl ?_
    refine St.nil ?_
    refine St.then_normal ?_
    refine St.cond _ rfl (fun h16 => ?_) (fun h16 => ?_)
    · skip
      try simp only [Bool.and_true, Bool.true_and, decide_eq_true_eq, decide_eq_false_iff_not, Bool.and_eq_true, Bool.or_eq_true, Bool.and_eq_false_iff, Bool.or_eq_false_iff, Bool.not_eq_true', Bool.not_eq_false', beq_iff_eq, beq_eq_false_iff_ne, Int.not_lt, Int.not_le] at h16
      refine St.skip ?_
      refine St.then_normal ?_
      refine St.seq ?_
      refine St.block ?_
      refine St.seq ?_
      refine St.seq ?_
      refine St.rg ?_
      refine St.ev _ (Ev.move (Opd.mk rfl)) rfl ?_
      refine St.ev _ (Ev.move (Opd.mk rfl)) rfl ?_
      refine St.ev _ (Ev.eql (Opd.mk rfl) (Opd.mk rfl)) rfl ?_
      refine St.nil ?_
      refine St.then_normal ?_
      refine St.cond _ rfl (fun h21 => ?_) (fun h21 => ?_)
      · skip
        try simp only [Bool.and_true, Bool.true_and, decide_eq_true_eq, decide_eq_false_iff_not, Bool.and_eq_true, Bool.or_eq_true, Bool.and_eq_false_iff, Bool.or_eq_false_iff, Bool.not_eq_true', Bool.not_eq_false', beq_iff_eq, beq_eq_false_iff_ne, Int.not_lt, Int.not_le] at h21
        refine St.exit ?_
        refine St.then_exit ?_
        refine St.in_hit ?_
        refine St.then_normal ?_
        refine St.rg ?_
        refine St.ev _ (Ev.move (Opd.mk rfl)) rfl ?_
        refine St.ev _ (Ev.add (Opd.mk rfl) (Opd.mk rfl) (by omega)) rfl ?_
        refine St.ev _ (Ev.assign (Opd.mk rfl)) rfl ?_
        refine St.nil ?_
        refine St.then_normal ?_
        refine St.againS (k + 1) ⟨by omega, all_range_succ hall (by first | exact okPair_same h21 | exact okPair_ok h47 h73 h99)⟩ (by first | omega | (dsimp only; omega)) (by repeat (first | exact Sub.nil | refine Sub.cons (by first | rfl | exact congrArg (fun z => some (iv z)) (by first | omega | (dsimp only; omega)) | exact congrArg (fun z => some (Value.bool z)) (by first | assumption | exact Eq.symm (by assumption))) ?_)) (fun _ hw => hw.sub)
      · skip
        try simp only [Bool.and_true, Bool.true_and, decide_eq_true_eq, decide_eq_false_iff_not, Bool.and_eq_true, Bool.or_eq_true, Bool.and_eq_false_iff, Bool.or_eq_false_iff, Bool.not_eq_true', Bool.not_eq_false', beq_iff_eq, beq_eq_false_iff_ne, Int.not_lt, Int.not_le] at h21
        refine St.skip ?_
        refine St.then_normal ?_
        refine St.seq ?_
        refine St.seq ?_
        refine St.rq mixed (by kernel_rfl) (Mm.drawn _ _) ?_
        refine Sq.ev _ (Ev.fldb0 (Opd.mk rfl) fo34_0) rfl ?_
        refine Sq.ev _ (Ev.ldb (Opd.mk rfl) Try.underlying3 trivial (by rfl)) rfl ?_
        refine Sq.ev _ (Ev.eql (Opd.mk rfl) (Opd.mk rfl)) rfl ?_
        refine Sq.ev _ (Ev.move (Opd.mk rfl)) rfl ?_
        refine Sq.gt _ rfl rfl (fun hg => Ev.move (Opd.mk rfl)) rfl ?_
        refine Sq.gt _ rfl rfl (fun hg => Ev.move (Opd.mk rfl)) rfl ?_
        refine Sq.gt _ rfl rfl (fun hg => Ev.idxaddr  (Opd.gv rfl hg) (Opd.gv rfl hg) Try.underlying23 sz9 rfl (by first | omega | (simp only [Bool.and_true, Bool.true_and, decide_eq_true_eq, decide_eq_false_iff_not, Bool.and_eq_true, Bool.or_eq_true, Bool.and_eq_false_iff, Bool.or_eq_false_iff, Bool.not_eq_true', Bool.not_eq_false', beq_iff_eq, beq_eq_false_iff_ne, Int.not_lt, Int.not_le] at hg; omega))) rfl ?_
        refine Sq.gt _ rfl rfl (fun hg => Ev.ld1 (Opd.gv rfl hg) (some_getD [] (by first | omega | (simp only [Bool.and_true, Bool.true_and, decide_eq_true_eq, decide_eq_false_iff_not, Bool.and_eq_true, Bool.or_eq_true, Bool.and_eq_false_iff, Bool.or_eq_false_iff, Bool.not_eq_true', Bool.not_eq_false', beq_iff_eq, beq_eq_false_iff_ne, Int.not_lt, Int.not_le] at hg; omega))) Try.underlying9 trivial rfl) rfl ?_
        refine Sq.gt _ rfl rfl (fun hg => Ev.fldb0 (Opd.mk rfl) fo34_1) rfl ?_
        refine Sq.gt _ rfl rfl (fun hg => Ev.ldb (Opd.gv rfl hg) Try.underlying9 trivial (by rfl)) rfl ?_
        refine Sq.gt _ rfl rfl (fun hg => Ev.streq (Opd.gv rfl hg) (Opd.gv rfl hg)) rfl ?_
        refine Sq.ev _ (Ev.and (Opd.mk rfl) (fun hp => Opd.gv rfl hp)) rfl ?_
        refine Sq.ev _ (Ev.move (Opd.mk rfl)) rfl ?_
        refine Sq.gt _ rfl rfl (fun hg => Ev.move (Opd.mk rfl)) rfl ?_
        refine Sq.gt _ rfl rfl (fun hg => Ev.move (Opd.mk rfl)) rfl ?_
        refine Sq.gt _ rfl rfl (fun hg => Ev.idxaddr  (Opd.gv rfl hg) (Opd.gv rfl hg) Try.underlying23 sz9 rfl (by first | omega | (simp only [Bool.and_true, Bool.true_and, decide_eq_true_eq, decide_eq_false_iff_not, Bool.and_eq_true, Bool.or_eq_true, Bool.and_eq_false_iff, Bool.or_eq_false_iff, Bool.not_eq_true', Bool.not_eq_false', beq_iff_eq, beq_eq_false_iff_ne, Int.not_lt, Int.not_le] at hg; omega))) rfl ?_
        refine Sq.gt _ rfl rfl (fun hg => Ev.ld1 (Opd.gv rfl hg) (some_getD [] (by first | omega | (simp only [Bool.and_true, Bool.true_and, decide_eq_true_eq, decide_eq_false_iff_not, Bool.and_eq_true, Bool.or_eq_true, Bool.and_eq_false_iff, Bool.or_eq_false_iff, Bool.not_eq_true', Bool.not_eq_false', beq_iff_eq, beq_eq_false_iff_ne, Int.not_lt, Int.not_le] at hg; omega))) Try.underlying9 trivial rfl) rfl ?_
        refine Sq.gt _ rfl rfl (fun hg => Ev.fldb0 (Opd.mk rfl) fo34_2) rfl ?_
        refine Sq.gt _ rfl rfl (fun hg => Ev.ldb (Opd.gv rfl hg) Try.underlying9 trivial (by rfl)) rfl ?_
        refine Sq.gt _ rfl rfl (fun hg => Ev.streq (Opd.gv rfl hg) (Opd.gv rfl hg)) rfl ?_
        refine Sq.ev _ (Ev.and (Opd.mk rfl) (fun hp => Opd.gv rfl hp)) rfl ?_
        refine Sq.ev _ (Ev.move (Opd.mk rfl)) rfl ?_
        refine Sq.gt _ rfl rfl (fun hg => Ev.move (Opd.mk rfl)) rfl ?_
        refine Sq.gt _ rfl rfl (fun hg => Ev.move (Opd.mk rfl)) rfl ?_
        refine Sq.gt _ rfl rfl (fun hg => Ev.gtr (Opd.gv rfl hg) (Opd.gv rfl hg)) rfl ?_
        refine Sq.ev _ (Ev.and (Opd.mk rfl) (fun hp => Opd.gv rfl hp)) rfl ?_
        refine Sq.nil ?_
        refine St.then_normal ?_
        refine St.cond _ rfl (fun h47 => ?_) (fun h47 => ?_)
        · skip
          skip
          refine St.seq ?_
          refine St.rg ?_
          refine St.ev _ (Ev.assign (Opd.mk rfl)) rfl ?_
          refine St.nil ?_
          refine St.then_normal ?_
          refine St.rett ?_
          refine St.then_ret ?_
          refine St.in_ret ?_
          refine St.then_ret ?_
          refine St.then_ret ?_
          refine St.in_ret ?_
          refine St.then_ret ?_
          refine St.in_ret ?_
          refine St.then_ret ?_
          refine St.then_ret ?_
          refine St.in_ret ?_
          refine St.then_ret ?_
          refine St.rets [_] [] Try.results28 ⟨rfl, trivial⟩ ?_ (fun _ hw => hw.sub)
          exact be (keeps_false (i := i) (by omega) (okAt_false1 (k := k) (by omega) (okPair_bad h21 (.inl h47)))).symm
        · skip
          skip
          refine St.skip ?_
          refine St.then_normal ?_
          refine St.seq ?_
          refine St.seq ?_
          refine St.rq mixed (by kernel_rfl) (Mm.drawn _ _) ?_
          refine Sq.ev _ (Ev.fldb0 (Opd.mk rfl) fo34_0) rfl ?_
          refine Sq.ev _ (Ev.ldb (Opd.mk rfl) Try.underlying3 trivial (by rfl)) rfl ?_
          refine Sq.ev _ (Ev.eql (Opd.mk rfl) (Opd.mk rfl)) rfl ?_
          refine Sq.ev _ (Ev.move (Opd.mk rfl)) rfl ?_
          refine Sq.gt _ rfl rfl (fun hg => Ev.move (Opd.mk rfl)) rfl ?_
          refine Sq.gt _ rfl rfl (fun hg => Ev.move (Opd.mk rfl)) rfl ?_
          refine Sq.gt _ rfl rfl (fun hg => Ev.idxaddr  (Opd.gv rfl hg) (Opd.gv rfl hg) Try.underlying23 sz9 rfl (by first | omega | (simp only [Bool.and_true, Bool.true_and, decide_eq_true_eq, decide_eq_false_iff_not, Bool.and_eq_true, Bool.or_eq_true, Bool.and_eq_false_iff, Bool.or_eq_false_iff, Bool.not_eq_true', Bool.not_eq_false', beq_iff_eq, beq_eq_false_iff_ne, Int.not_lt, Int.not_le] at hg; omega))) rfl ?_
          refine Sq.gt _ rfl rfl (fun hg => Ev.ld1 (Opd.gv rfl hg) (some_getD [] (by first | omega | (simp only [Bool.and_true, Bool.true_and, decide_eq_true_eq, decide_eq_false_iff_not, Bool.and_eq_true, Bool.or_eq_true, Bool.and_eq_false_iff, Bool.or_eq_false_iff, Bool.not_eq_true', Bool.not_eq_false', beq_iff_eq, beq_eq_false_iff_ne, Int.not_lt, Int.not_le] at hg; omega))) Try.underlying9 trivial rfl) rfl ?_
          refine Sq.gt _ rfl rfl (fun hg => Ev.fldb0 (Opd.mk rfl) fo34_1) rfl ?_
          refine Sq.gt _ rfl rfl (fun hg => Ev.ldb (Opd.gv rfl hg) Try.underlying9 trivial (by rfl)) rfl ?_
          refine Sq.gt _ rfl rfl (fun hg => Ev.streq (Opd.gv rfl hg) (Opd.gv rfl hg)) rfl ?_
          refine Sq.ev _ (Ev.and (Opd.mk rfl) (fun hp => Opd.gv rfl hp)) rfl ?_
          refine Sq.ev _ (Ev.move (Opd.mk rfl)) rfl ?_
          refine Sq.gt _ rfl rfl (fun hg => Ev.move (Opd.mk rfl)) rfl ?_
          refine Sq.gt _ rfl rfl (fun hg => Ev.move (Opd.mk rfl)) rfl ?_
          refine Sq.gt _ rfl rfl (fun hg => Ev.idxaddr  (Opd.gv rfl hg) (Opd.gv rfl hg) Try.underlying23 sz9 rfl (by first | omega | (simp only [Bool.and_true, Bool.true_and, decide_eq_true_eq, decide_eq_false_iff_not, Bool.and_eq_true, Bool.or_eq_true, Bool.and_eq_false_iff, Bool.or_eq_false_iff, Bool.not_eq_true', Bool.not_eq_false', beq_iff_eq, beq_eq_false_iff_ne, Int.not_lt, Int.not_le] at hg; omega))) rfl ?_
          refine Sq.gt _ rfl rfl (fun hg => Ev.ld1 (Opd.gv rfl hg) (some_getD [] (by first | omega | (simp only [Bool.and_true, Bool.true_and, decide_eq_true_eq, decide_eq_false_iff_not, Bool.and_eq_true, Bool.or_eq_true, Bool.and_eq_false_iff, Bool.or_eq_false_iff, Bool.not_eq_true', Bool.not_eq_false', beq_iff_eq, beq_eq_false_iff_ne, Int.not_lt, Int.not_le] at hg; omega))) Try.underlying9 trivial rfl) rfl ?_
          refine Sq.gt _ rfl rfl (fun hg => Ev.fldb0 (Opd.mk rfl) fo34_1) rfl ?_
          refine Sq.gt _ rfl rfl (fun hg => Ev.ldb (Opd.gv rfl hg) Try.underlying9 trivial (by rfl)) rfl ?_
          refine Sq.gt _ rfl rfl (fun hg => Ev.strne (Opd.gv rfl hg) (Opd.gv rfl hg)) rfl ?_
          refine Sq.ev _ (Ev.and (Opd.mk rfl) (fun hp => Opd.gv rfl hp)) rfl ?_
          refine Sq.ev _ (Ev.move (Opd.mk rfl)) rfl ?_
          refine Sq.gt _ rfl rfl (fun hg => Ev.move (Opd.mk rfl)) rfl ?_
          refine Sq.gt _ rfl rfl (fun hg => Ev.move (Opd.mk rfl)) rfl ?_
          refine Sq.gt _ rfl rfl (fun hg => Ev.gtr (Opd.gv rfl hg) (Opd.gv rfl hg)) rfl ?_
          refine Sq.ev _ (Ev.and (Opd.mk rfl) (fun hp => Opd.gv rfl hp)) rfl ?_
          refine Sq.nil ?_
          refine St.then_normal ?_
          refine St.cond _ rfl (fun h73 => ?_) (fun h73 => ?_)
          · skip
            skip
            refine St.seq ?_
            refine St.rg ?_
            refine St.ev _ (Ev.assign (Opd.mk rfl)) rfl ?_
            refine St.nil ?_
            refine St.then_normal ?_
            refine St.rett ?_
            refine St.then_ret ?_
            refine St.in_ret ?_
            refine St.then_ret ?_
            refine St.then_ret ?_
            refine St.in_ret ?_
            refine St.then_ret ?_
            refine St.in_ret ?_
            refine St.then_ret ?_
            refine St.then_ret ?_
            refine St.in_ret ?_
            refine St.then_ret ?_
            refine St.rets [_] [] Try.results28 ⟨rfl, trivial⟩ ?_ (fun _ hw => hw.sub)
            exact be (keeps_false (i := i) (by omega) (okAt_false1 (k := k) (by omega) (okPair_bad h21 (.inr (.inl h73))))).symm
          · skip
            skip
            refine St.skip ?_
            refine St.then_normal ?_
            refine St.seq ?_
            refine St.rq mixed (by kernel_rfl) (Mm.drawn _ _) ?_
            refine Sq.ev _ (Ev.fldb0 (Opd.mk rfl) fo34_0) rfl ?_
            refine Sq.ev _ (Ev.ldb (Opd.mk rfl) Try.underlying3 trivial (by rfl)) rfl ?_
            refine Sq.ev _ (Ev.eql (Opd.mk rfl) (Opd.mk rfl)) rfl ?_
            refine Sq.ev _ (Ev.move (Opd.mk rfl)) rfl ?_
            refine Sq.gt _ rfl rfl (fun hg => Ev.move (Opd.mk rfl)) rfl ?_
            refine Sq.gt _ rfl rfl (fun hg => Ev.move (Opd.mk rfl)) rfl ?_
            refine Sq.gt _ rfl rfl (fun hg => Ev.idxaddr  (Opd.gv rfl hg) (Opd.gv rfl hg) Try.underlying23 sz9 rfl (by first | omega | (simp only [Bool.and_true, Bool.true_and, decide_eq_true_eq, decide_eq_false_iff_not, Bool.and_eq_true, Bool.or_eq_true, Bool.and_eq_false_iff, Bool.or_eq_false_iff, Bool.not_eq_true', Bool.not_eq_false', beq_iff_eq, beq_eq_false_iff_ne, Int.not_lt, Int.not_le] at hg; omega))) rfl ?_
            refine Sq.gt _ rfl rfl (fun hg => Ev.ld1 (Opd.gv rfl hg) (some_getD [] (by first | omega | (simp only [Bool.and_true, Bool.true_and, decide_eq_true_eq, decide_eq_false_iff_not, Bool.and_eq_true, Bool.or_eq_true, Bool.and_eq_false_iff, Bool.or_eq_false_iff, Bool.not_eq_true', Bool.not_eq_false', beq_iff_eq, beq_eq_false_iff_ne, Int.not_lt, Int.not_le] at hg; omega))) Try.underlying9 trivial rfl) rfl ?_
            refine Sq.gt _ rfl rfl (fun hg => Ev.fldb0 (Opd.mk rfl) fo34_1) rfl ?_
            refine Sq.gt _ rfl rfl (fun hg => Ev.ldb (Opd.gv rfl hg) Try.underlying9 trivial (by rfl)) rfl ?_
            refine Sq.gt _ rfl rfl (fun hg => Ev.streq (Opd.gv rfl hg) (Opd.gv rfl hg)) rfl ?_
            refine Sq.ev _ (Ev.and (Opd.mk rfl) (fun hp => Opd.gv rfl hp)) rfl ?_
            refine Sq.ev _ (Ev.move (Opd.mk rfl)) rfl ?_
            refine Sq.gt _ rfl rfl (fun hg => Ev.move (Opd.mk rfl)) rfl ?_
            refine Sq.gt _ rfl rfl (fun hg => Ev.move (Opd.mk rfl)) rfl ?_
            refine Sq.gt _ rfl rfl (fun hg => Ev.idxaddr  (Opd.gv rfl hg) (Opd.gv rfl hg) Try.underlying23 sz9 rfl (by first | omega | (simp only [Bool.and_true, Bool.true_and, decide_eq_true_eq, decide_eq_false_iff_not, Bool.and_eq_true, Bool.or_eq_true, Bool.and_eq_false_iff, Bool.or_eq_false_iff, Bool.not_eq_true', Bool.not_eq_false', beq_iff_eq, beq_eq_false_iff_ne, Int.not_lt, Int.not_le] at hg; omega))) rfl ?_
            refine Sq.gt _ rfl rfl (fun hg => Ev.ld1 (Opd.gv rfl hg) (some_getD [] (by first | omega | (simp only [Bool.and_true, Bool.true_and, decide_eq_true_eq, decide_eq_false_iff_not, Bool.and_eq_true, Bool.or_eq_true, Bool.and_eq_false_iff, Bool.or_eq_false_iff, Bool.not_eq_true', Bool.not_eq_false', beq_iff_eq, beq_eq_false_iff_ne, Int.not_lt, Int.not_le] at hg; omega))) Try.underlying9 trivial rfl) rfl ?_
            refine Sq.gt _ rfl rfl (fun hg => Ev.fldb0 (Opd.mk rfl) fo34_1) rfl ?_
            refine Sq.gt _ rfl rfl (fun hg => Ev.ldb (Opd.gv rfl hg) Try.underlying9 trivial (by rfl)) rfl ?_
            refine Sq.gt _ rfl rfl (fun hg => Ev.strne (Opd.gv rfl hg) (Opd.gv rfl hg)) rfl ?_
            refine Sq.ev _ (Ev.and (Opd.mk rfl) (fun hp => Opd.gv rfl hp)) rfl ?_
            refine Sq.ev _ (Ev.move (Opd.mk rfl)) rfl ?_
            refine Sq.gt _ rfl rfl (fun hg => Ev.move (Opd.mk rfl)) rfl ?_
            refine Sq.gt _ rfl rfl (fun hg => Ev.move (Opd.mk rfl)) rfl ?_
            refine Sq.gt _ rfl rfl (fun hg => Ev.lss (Opd.gv rfl hg) (Opd.gv rfl hg)) rfl ?_
            refine Sq.ev _ (Ev.and (Opd.mk rfl) (fun hp => Opd.gv rfl hp)) rfl ?_
            refine Sq.nil ?_
            refine St.then_normal ?_
            refine St.cond _ rfl (fun h99 => ?_) (fun h99 => ?_)
            · skip
              skip
              refine St.seq ?_
              refine St.rg ?_
              refine St.ev _ (Ev.assign (Opd.mk rfl)) rfl ?_
              refine St.nil ?_
              refine St.then_normal ?_
              refine St.rett ?_
              refine St.in_ret ?_
              refine St.then_ret ?_
              refine St.then_ret ?_
              refine St.in_ret ?_
              refine St.then_ret ?_
              refine St.in_ret ?_
              refine St.then_ret ?_
              refine St.then_ret ?_
              refine St.in_ret ?_
              refine St.then_ret ?_
              refine St.rets [_] [] Try.results28 ⟨rfl, trivial⟩ ?_ (fun _ hw => hw.sub)
              exact be (keeps_false (i := i) (by omega) (okAt_false1 (k := k) (by omega) (okPair_bad h21 (.inr (.inr h99))))).symm
            · skip
              skip
              refine St.skip ?_
              refine St.in_normal ?_
              refine St.then_normal ?_
              refine St.rg ?_
              refine St.ev _ (Ev.move (Opd.mk rfl)) rfl ?_
              refine St.ev _ (Ev.add (Opd.mk rfl) (Opd.mk rfl) (by omega)) rfl ?_
              refine St.ev _ (Ev.assign (Opd.mk rfl)) rfl ?_
              refine St.nil ?_
              refine St.then_normal ?_
              refine St.againS (k + 1) ⟨by omega, all_range_succ hall (by first | exact okPair_same h21 | exact okPair_ok h47 h73 h99)⟩ (by first | omega | (dsimp only; omega)) (by repeat (first | exact Sub.nil | refine Sub.cons (by first | rfl | exact congrArg (fun z => some (iv z)) (by first | omega | (dsimp only; omega)) | exact congrArg (fun z => some (Value.bool z)) (by first | assumption | exact Eq.symm (by assumption))) ?_)) (fun _ hw => hw.sub)
    · skip
      try simp only [Bool.and_true, Bool.true_and, decide_eq_true_eq, decide_eq_false_iff_not, Bool.and_eq_true, Bool.or_eq_true, Bool.and_eq_false_iff, Bool.or_eq_false_iff, Bool.not_eq_true', Bool.not_eq_false', beq_iff_eq, beq_eq_false_iff_ne, Int.not_lt, Int.not_le] at h16
      refine St.exit ?_
      refine St.then_exit ?_
      refine St.then_exit ?_
      refine St.in_hit ?_
      refine St.then_normal ?_
      refine St.seq ?_
      refine St.rq mixed (by kernel_rfl) (Mm.drawn _ _) ?_
      refine Sq.ev _ (Ev.fldb0 (Opd.mk rfl) fo34_0) rfl ?_
      refine Sq.ev _ (Ev.ldb (Opd.mk rfl) Try.underlying3 trivial (by rfl)) rfl ?_
      refine Sq.ev _ (Ev.eql (Opd.mk rfl) (Opd.mk rfl)) rfl ?_
      refine Sq.ev _ (Ev.move (Opd.mk rfl)) rfl ?_
      refine Sq.gt _ rfl rfl (fun hg => Ev.move (Opd.mk rfl)) rfl ?_
      refine Sq.gt _ rfl rfl (fun hg => Ev.move (Opd.mk rfl)) rfl ?_
      refine Sq.gt _ rfl rfl (fun hg => Ev.idxaddr  (Opd.gv rfl hg) (Opd.gv rfl hg) Try.underlying23 sz9 rfl (by first | omega | (simp only [Bool.and_true, Bool.true_and, decide_eq_true_eq, decide_eq_false_iff_not, Bool.and_eq_true, Bool.or_eq_true, Bool.and_eq_false_iff, Bool.or_eq_false_iff, Bool.not_eq_true', Bool.not_eq_false', beq_iff_eq, beq_eq_false_iff_ne, Int.not_lt, Int.not_le] at hg; omega))) rfl ?_
      refine Sq.gt _ rfl rfl (fun hg => Ev.ld1 (Opd.gv rfl hg) (some_getD [] (by first | omega | (simp only [Bool.and_true, Bool.true_and, decide_eq_true_eq, decide_eq_false_iff_not, Bool.and_eq_true, Bool.or_eq_true, Bool.and_eq_false_iff, Bool.or_eq_false_iff, Bool.not_eq_true', Bool.not_eq_false', beq_iff_eq, beq_eq_false_iff_ne, Int.not_lt, Int.not_le] at hg; omega))) Try.underlying9 trivial rfl) rfl ?_
      refine Sq.gt _ rfl rfl (fun hg => Ev.fldb0 (Opd.mk rfl) fo34_1) rfl ?_
      refine Sq.gt _ rfl rfl (fun hg => Ev.ldb (Opd.gv rfl hg) Try.underlying9 trivial (by rfl)) rfl ?_
      refine Sq.gt _ rfl rfl (fun hg => Ev.streq (Opd.gv rfl hg) (Opd.gv rfl hg)) rfl ?_
      refine Sq.ev _ (Ev.and (Opd.mk rfl) (fun hp => Opd.gv rfl hp)) rfl ?_
      refine Sq.ev _ (Ev.move (Opd.mk rfl)) rfl ?_
      refine Sq.gt _ rfl rfl (fun hg => Ev.move (Opd.mk rfl)) rfl ?_
      refine Sq.gt _ rfl rfl (fun hg => Ev.move (Opd.mk rfl)) rfl ?_
      refine Sq.gt _ rfl rfl (fun hg => Ev.lensl (Opd.gv rfl hg) Try.underlying23) rfl ?_
      refine Sq.gt _ rfl rfl (fun hg => Ev.sub (Opd.gv rfl hg) (Opd.mk rfl) (by first | omega | (simp only [Bool.and_true, Bool.true_and, decide_eq_true_eq, decide_eq_false_iff_not, Bool.and_eq_true, Bool.or_eq_true, Bool.and_eq_false_iff, Bool.or_eq_false_iff, Bool.not_eq_true', Bool.not_eq_false', beq_iff_eq, beq_eq_false_iff_ne, Int.not_lt, Int.not_le] at hg; omega))) rfl ?_
      refine Sq.gt _ rfl rfl (fun hg => Ev.eql (Opd.gv rfl hg) (Opd.gv rfl hg)) rfl ?_
      refine Sq.gt _ rfl rfl (fun hg => Ev.move (Opd.gv rfl hg)) rfl ?_
      refine Sq.gcf _ rfl rfl (fun hg => Ev.move (Opd.mk rfl)) rfl ?_
      refine Sq.gcf _ rfl rfl (fun hg => Ev.move (Opd.mk rfl)) rfl ?_
      refine Sq.gcf _ rfl rfl (fun hg => Ev.add (Opd.gv rfl hg) (Opd.mk rfl) (by first | omega | (simp only [Bool.and_true, Bool.true_and, decide_eq_true_eq, decide_eq_false_iff_not, Bool.and_eq_true, Bool.or_eq_true, Bool.and_eq_false_iff, Bool.or_eq_false_iff, Bool.not_eq_true', Bool.not_eq_false', beq_iff_eq, beq_eq_false_iff_ne, Int.not_lt, Int.not_le] at hg; omega))) rfl ?_
      refine Sq.gcf _ rfl rfl (fun hg => Ev.idxaddr (k := (i + 1)) (Opd.gv rfl hg) (Opd.gv rfl hg) Try.underlying23 sz9 (by first | omega | (simp only [Bool.and_true, Bool.true_and, decide_eq_true_eq, decide_eq_false_iff_not, Bool.and_eq_true, Bool.or_eq_true, Bool.and_eq_false_iff, Bool.or_eq_false_iff, Bool.not_eq_true', Bool.not_eq_false', beq_iff_eq, beq_eq_false_iff_ne, Int.not_lt, Int.not_le] at hg; omega)) (by first | omega | (simp only [Bool.and_true, Bool.true_and, decide_eq_true_eq, decide_eq_false_iff_not, Bool.and_eq_true, Bool.or_eq_true, Bool.and_eq_false_iff, Bool.or_eq_false_iff, Bool.not_eq_true', Bool.not_eq_false', beq_iff_eq, beq_eq_false_iff_ne, Int.not_lt, Int.not_le] at hg; omega))) rfl ?_
      refine Sq.gcf _ rfl rfl (fun hg => Ev.ld1 (Opd.gv rfl hg) (some_getD [] (by first | omega | (simp only [Bool.and_true, Bool.true_and, decide_eq_true_eq, decide_eq_false_iff_not, Bool.and_eq_true, Bool.or_eq_true, Bool.and_eq_false_iff, Bool.or_eq_false_iff, Bool.not_eq_true', Bool.not_eq_false', beq_iff_eq, beq_eq_false_iff_ne, Int.not_lt, Int.not_le] at hg; omega))) Try.underlying9 trivial rfl) rfl ?_
      refine Sq.gcf _ rfl rfl (fun hg => Ev.fldb0 (Opd.mk rfl) fo34_2) rfl ?_
      refine Sq.gcf _ rfl rfl (fun hg => Ev.ldb (Opd.gv rfl hg) Try.underlying9 trivial (by rfl)) rfl ?_
      refine Sq.gcf _ rfl rfl (fun hg => Ev.strne (Opd.gv rfl hg) (Opd.gv rfl hg)) rfl ?_
      refine Sq.gt _ rfl rfl (fun hg => Ev.or (Opd.gv rfl hg) (fun hp => Opd.gv rfl (and_i hg hp))) rfl ?_
      refine Sq.ev _ (Ev.and (Opd.mk rfl) (fun hp => Opd.gv rfl hp)) rfl ?_
      refine Sq.nil ?_
      refine St.then_normal ?_
      refine St.cond _ rfl (fun h128 => ?_) (fun h128 => ?_)
      · skip
        skip
        refine St.seq ?_
        refine St.rg ?_
        refine St.ev _ (Ev.assign (Opd.mk rfl)) rfl ?_
        refine St.nil ?_
        refine St.then_normal ?_
        refine St.rett ?_
        refine St.in_ret ?_
        refine St.then_ret ?_
        refine St.then_ret ?_
        refine St.in_ret ?_
        refine St.then_ret ?_
        refine St.rets [_] [] Try.results28 ⟨rfl, trivial⟩ ?_ (fun _ hw => hw.sub)
        exact be (keeps_false (i := i) (by omega) (okAt_false2 h128)).symm
      · skip
        skip
        refine St.skip ?_
        refine St.in_normal ?_
        refine St.then_normal ?_
        refine St.rg ?_
        refine St.ev _ (Ev.move (Opd.mk rfl)) rfl ?_
        refine St.ev _ (Ev.add (Opd.mk rfl) (Opd.mk rfl) (by omega)) rfl ?_
        refine St.ev _ (Ev.assign (Opd.mk rfl)) rfl ?_
        refine St.nil ?_
        refine St.then_normal ?_
        refine St.againS (i + 1) ⟨by omega, all_range_succ hout (okAt_ok (by omega) hk hall h128)⟩ (by first | omega | (dsimp only; omega)) (by repeat (first | exact Sub.nil | refine Sub.cons (by first | rfl | exact congrArg (fun z => some (iv z)) (by first | omega | (dsimp only; omega)) | exact congrArg (fun z => some (Value.bool z)) (by first | assumption | exact Eq.symm (by assumption))) ?_)) (fun _ hw => hw.sub)
  · skip
    try simp only [Bool.and_true, Bool.true_and, decide_eq_true_eq, decide_eq_false_iff_not, Bool.and_eq_true, Bool.or_eq_true, Bool.and_eq_false_iff, Bool.or_eq_false_iff, Bool.not_eq_true', Bool.not_eq_false', beq_iff_eq, beq_eq_false_iff_ne, Int.not_lt, Int.not_le] at h10
    refine St.exit ?_
    refine St.then_exit ?_
    refine St.then_exit ?_
    refine St.in_hit ?_
    refine St.then_normal ?_
    refine St.seq ?_
    refine St.rg ?_
    refine St.ev _ (Ev.assign (Opd.mk rfl)) rfl ?_
    refine St.nil ?_
    refine St.then_normal ?_
    refine St.rett ?_
    refine St.rets [_] [] Try.results28 ⟨rfl, trivial⟩ ?_ (fun _ hw => hw.sub)
    exact be (by rw [show i = row.length by omega] at hout; exact hout.symm)

end Go.Proofs.Ytblnbjlcpleaaaa
