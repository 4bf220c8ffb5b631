/-
  The walks of the checks of names, rules and kinds: the code and the reference report the same fault.
  Conditions: the lengths of strings are lengths.
-/
import Derived.Test.YtblnbjlcpleaaaaChecked
import Derived.Test.YtblnbjlcpleaaaaJ6
import Derived.Test.YtblnbjlcpleaaaaJP
import Derived.Test.YtblnbjlcpleaaaaOrdP
import Derived.Test.YtblnbjlcpleaaaaFacts
set_option linter.unusedSimpArgs false
set_option linter.unusedVariables false
namespace Go.Proofs.Ytblnbjlcpleaaaa
open Go Go.J

theorem Name_spec (s : Str) (hs : s.length ≤ 9223372036854775807) : FnV Try.prog 32 #[sv s] [] (.bool (isName s)) := by
  refine FnV.body0 (args := [sv s]) 55 Try.func32 rfl Try.ntmps32 rfl (fun c => ?_)
  refine St.seq ?_
  refine St.rg ?_
  refine St.ev _ (Ev.assign (Opd.mk rfl)) rfl ?_
  refine St.nil ?_
  refine St.then_normal ?_
  refine St.seq ?_
  refine St.seq ?_
  refine St.rg ?_
  refine St.ev _ (Ev.move (Opd.mk rfl)) rfl ?_
  refine St.ev _ (Ev.lenstr (Opd.mk rfl) Try.underlying9) rfl ?_
  refine St.ev _ (Ev.eql (Opd.mk rfl) (Opd.mk rfl)) rfl ?_
  refine St.ev _ (Ev.move (Opd.mk rfl)) rfl ?_
  refine St.gf _ rfl rfl (fun hg => Ev.move (Opd.mk rfl)) rfl ?_
  refine St.gf _ rfl rfl (fun hg => Ev.lenstr (Opd.gv rfl hg) Try.underlying9) rfl ?_
  refine St.gf _ rfl rfl (fun hg => Ev.gtr (Opd.gv rfl hg) (Opd.mk rfl)) rfl ?_
  refine St.ev _ (Ev.or (Opd.mk rfl) (fun hp => Opd.gv rfl hp)) rfl ?_
  refine St.ev _ (Ev.move (Opd.mk rfl)) rfl ?_
  refine St.gf _ rfl rfl (fun hg => Ev.move (Opd.mk rfl)) rfl ?_
  refine St.gf _ rfl rfl (fun hg => Ev.idxstr0 (k := 0) (Opd.gv rfl hg) (Opd.mk rfl) Try.underlying9 rfl (by first | omega | (simp only [Bool.and_true, Bool.true_and, decide_eq_true_eq, decide_eq_false_iff_not, Bool.and_eq_true, Bool.or_eq_true, Bool.and_eq_false_iff, Bool.or_eq_false_iff, Bool.not_eq_true', Bool.not_eq_false', beq_iff_eq, beq_eq_false_iff_ne, Int.not_lt, Int.not_le] at hg; omega))) rfl ?_
  refine St.gf _ rfl rfl (fun hg => Ev.lss (Opd.gv rfl hg) (Opd.mk rfl)) rfl ?_
  refine St.ev _ (Ev.or (Opd.mk rfl) (fun hp => Opd.gv rfl hp)) rfl ?_
  refine St.ev _ (Ev.move (Opd.mk rfl)) rfl ?_
  refine St.gf _ rfl rfl (fun hg => Ev.move (Opd.mk rfl)) rfl ?_
  refine St.gf _ rfl rfl (fun hg => Ev.idxstr0 (k := 0) (Opd.gv rfl hg) (Opd.mk rfl) Try.underlying9 rfl (by first | omega | (simp only [Bool.and_true, Bool.true_and, decide_eq_true_eq, decide_eq_false_iff_not, Bool.and_eq_true, Bool.or_eq_true, Bool.and_eq_false_iff, Bool.or_eq_false_iff, Bool.not_eq_true', Bool.not_eq_false', beq_iff_eq, beq_eq_false_iff_ne, Int.not_lt, Int.not_le] at hg; omega))) rfl ?_
  refine St.gf _ rfl rfl (fun hg => Ev.gtr (Opd.gv rfl hg) (Opd.mk rfl)) rfl ?_
  refine St.ev _ (Ev.or (Opd.mk rfl) (fun hp => Opd.gv rfl hp)) rfl ?_
  refine St.nil ?_
  refine St.then_normal ?_
  refine St.cond _ rfl (fun h22 => ?_) (fun h22 => ?_)
  · skip
    try simp only [Bool.and_true, Bool.true_and, decide_eq_true_eq, decide_eq_false_iff_not, Bool.and_eq_true, Bool.or_eq_true, Bool.and_eq_false_iff, Bool.or_eq_false_iff, Bool.not_eq_true', Bool.not_eq_false', beq_iff_eq, beq_eq_false_iff_ne, Int.not_lt, Int.not_le] at h22
    refine St.seq ?_
    refine St.rg ?_
    refine St.ev _ (Ev.assign (Opd.mk rfl)) rfl ?_
    refine St.nil ?_
    refine St.then_normal ?_
    refine St.rett ?_
    refine St.then_ret ?_
    refine St.rets [_] [] Try.results32 ⟨rfl, trivial⟩ ?_ (fun _ hw => hw.sub)
    exact be (isName_bad1 (by omega)).symm
  · skip
    try simp only [Bool.and_true, Bool.true_and, decide_eq_true_eq, decide_eq_false_iff_not, Bool.and_eq_true, Bool.or_eq_true, Bool.and_eq_false_iff, Bool.or_eq_false_iff, Bool.not_eq_true', Bool.not_eq_false', beq_iff_eq, beq_eq_false_iff_ne, Int.not_lt, Int.not_le] at h22
    refine St.skip ?_
    refine St.then_normal ?_
    refine St.seq ?_
    refine St.seq ?_
    refine St.rg ?_
    refine St.ev _ (Ev.move (Opd.mk rfl)) rfl ?_
    refine St.ev _ (Ev.lenstr (Opd.mk rfl) Try.underlying9) rfl ?_
    refine St.ev _ (Ev.move (Opd.mk rfl)) rfl ?_
    refine St.nil ?_
    refine St.then_normal ?_
    refine St.block ?_
    refine St.loopS (ι := Nat) (fun k T => (25, iv k) :: T) (fun k => k ≤ s.length ∧ (s.take k).all nameRest = true) (fun k => s.length - k) 0 (Keep.cons 0 rfl (Keep.cons 24 rfl Keep.nil)) ⟨Nat.zero_le _, rfl⟩ (by repeat (first | exact Sub.nil | refine Sub.cons (by first | rfl | exact congrArg (fun z => some (iv z)) (by first | omega | (dsimp only; omega)) | exact congrArg (fun z => some (Value.bool z)) (by first | assumption | exact Eq.symm (by assumption))) ?_)) ?_
    intro k hphi
    obtain ⟨hk, hall⟩ := hphi
    refine St.seq ?_
    refine St.rg ?_
    refine St.ev _ (Ev.lss (Opd.mk rfl) (Opd.mk rfl)) rfl ?_
    refine St.nil ?_
    refine St.then_normal ?_
    refine St.seq ?_
    refine St.cond _ rfl (fun h26 => ?_) (fun h26 => ?_)
    · skip
      try simp only [Bool.and_true, Bool.true_and, decide_eq_true_eq, decide_eq_false_iff_not, Bool.and_eq_true, Bool.or_eq_true, Bool.and_eq_false_iff, Bool.or_eq_false_iff, Bool.not_eq_true', Bool.not_eq_false', beq_iff_eq, beq_eq_false_iff_ne, Int.not_lt, Int.not_le] at h26
      refine St.skip ?_
      refine St.then_normal ?_
      refine St.seq ?_
      refine St.block ?_
      refine St.seq ?_
      refine St.rg ?_
      refine St.ev _ (Ev.move (Opd.mk rfl)) rfl ?_
      refine St.ev _ (Ev.assign (Opd.mk rfl)) rfl ?_
      refine St.nil ?_
      refine St.then_normal ?_
      refine St.seq ?_
      refine St.rg ?_
      refine St.ev _ (Ev.move (Opd.mk rfl)) rfl ?_
      refine St.ev _ (Ev.move (Opd.mk rfl)) rfl ?_
      refine St.ev _ (Ev.idxstr0  (Opd.mk rfl) (Opd.mk rfl) Try.underlying9 rfl (by omega)) rfl ?_
      refine St.ev _ (Ev.assign (Opd.mk rfl)) rfl ?_
      refine St.nil ?_
      refine St.then_normal ?_
      refine St.seq ?_
      refine St.rg ?_
      refine St.ev _ (Ev.move (Opd.mk rfl)) rfl ?_
      refine St.ev _ (Ev.geq (Opd.mk rfl) (Opd.mk rfl)) rfl ?_
      refine St.ev _ (Ev.move (Opd.mk rfl)) rfl ?_
      refine St.gt _ rfl rfl (fun hg => Ev.move (Opd.mk rfl)) rfl ?_
      refine St.gt _ rfl rfl (fun hg => Ev.leq (Opd.gv rfl hg) (Opd.mk rfl)) rfl ?_
      refine St.ev _ (Ev.and (Opd.mk rfl) (fun hp => Opd.gv rfl hp)) rfl ?_
      refine St.ev _ (Ev.move (Opd.mk rfl)) rfl ?_
      refine St.gf _ rfl rfl (fun hg => Ev.move (Opd.mk rfl)) rfl ?_
      refine St.gf _ rfl rfl (fun hg => Ev.geq (Opd.gv rfl hg) (Opd.mk rfl)) rfl ?_
      refine St.gf _ rfl rfl (fun hg => Ev.move (Opd.gv rfl hg)) rfl ?_
      refine St.gct _ rfl rfl (fun hg => Ev.move (Opd.mk rfl)) rfl ?_
      refine St.gct _ rfl rfl (fun hg => Ev.leq (Opd.gv rfl hg) (Opd.mk rfl)) rfl ?_
      refine St.gf _ rfl rfl (fun hg => Ev.and (Opd.gv rfl hg) (fun hp => Opd.gv rfl (and_i hg hp))) rfl ?_
      refine St.ev _ (Ev.or (Opd.mk rfl) (fun hp => Opd.gv rfl hp)) rfl ?_
      refine St.ev _ (Ev.move (Opd.mk rfl)) rfl ?_
      refine St.gf _ rfl rfl (fun hg => Ev.move (Opd.mk rfl)) rfl ?_
      refine St.gf _ rfl rfl (fun hg => Ev.eql (Opd.gv rfl hg) (Opd.mk rfl)) rfl ?_
      refine St.ev _ (Ev.or (Opd.mk rfl) (fun hp => Opd.gv rfl hp)) rfl ?_
      refine St.ev _ (Ev.move (Opd.mk rfl)) rfl ?_
      refine St.gf _ rfl rfl (fun hg => Ev.move (Opd.mk rfl)) rfl ?_
      refine St.gf _ rfl rfl (fun hg => Ev.eql (Opd.gv rfl hg) (Opd.mk rfl)) rfl ?_
      refine St.ev _ (Ev.or (Opd.mk rfl) (fun hp => Opd.gv rfl hp)) rfl ?_
      refine St.ev _ (Ev.not (Opd.mk rfl)) rfl ?_
      refine St.nil ?_
      refine St.then_normal ?_
      refine St.cond _ rfl (fun h53 => ?_) (fun h53 => ?_)
      · skip
        try simp only [Bool.and_true, Bool.true_and, decide_eq_true_eq, decide_eq_false_iff_not, Bool.and_eq_true, Bool.or_eq_true, Bool.and_eq_false_iff, Bool.or_eq_false_iff, Bool.not_eq_true', Bool.not_eq_false', beq_iff_eq, beq_eq_false_iff_ne, Int.not_lt, Int.not_le] at h53
        refine St.seq ?_
        refine St.rg ?_
        refine St.ev _ (Ev.assign (Opd.mk rfl)) rfl ?_
        refine St.nil ?_
        refine St.then_normal ?_
        refine St.rett ?_
        refine St.in_ret ?_
        refine St.then_ret ?_
        refine St.then_ret ?_
        refine St.in_ret ?_
        refine St.then_ret ?_
        refine St.rets [_] [] Try.results32 ⟨rfl, trivial⟩ ?_ (fun _ hw => hw.sub)
        exact be (isName_bad2 (k := k) (by omega) (by simp only [nameRest, low, digit, Bool.and_eq_false_iff, Bool.or_eq_false_iff, decide_eq_false_iff_not]; omega)).symm
      · skip
        try simp only [Bool.and_true, Bool.true_and, decide_eq_true_eq, decide_eq_false_iff_not, Bool.and_eq_true, Bool.or_eq_true, Bool.and_eq_false_iff, Bool.or_eq_false_iff, Bool.not_eq_true', Bool.not_eq_false', beq_iff_eq, beq_eq_false_iff_ne, Int.not_lt, Int.not_le] at h53
        refine St.skip ?_
        refine St.in_normal ?_
        refine St.then_normal ?_
        refine St.rg ?_
        refine St.ev _ (Ev.add (Opd.mk rfl) (Opd.mk rfl) (by omega)) rfl ?_
        refine St.ev _ (Ev.move (Opd.mk rfl)) rfl ?_
        refine St.nil ?_
        refine St.then_normal ?_
        refine St.againS (k + 1) ⟨by omega, all_take_succ (d := 0) hall (by simp only [nameRest, low, digit, Bool.and_eq_true, Bool.or_eq_true, decide_eq_true_eq]; exact h53)⟩ (by first | omega | (dsimp only; omega)) (by repeat (first | exact Sub.nil | refine Sub.cons (by first | rfl | exact congrArg (fun z => some (iv z)) (by first | omega | (dsimp only; omega)) | exact congrArg (fun z => some (Value.bool z)) (by first | assumption | exact Eq.symm (by assumption))) ?_)) (fun _ hw => hw.sub)
    · skip
      try simp only [Bool.and_true, Bool.true_and, decide_eq_true_eq, decide_eq_false_iff_not, Bool.and_eq_true, Bool.or_eq_true, Bool.and_eq_false_iff, Bool.or_eq_false_iff, Bool.not_eq_true', Bool.not_eq_false', beq_iff_eq, beq_eq_false_iff_ne, Int.not_lt, Int.not_le] at h26
      refine St.exit ?_
      refine St.then_exit ?_
      refine St.then_exit ?_
      refine St.in_hit ?_
      refine St.then_normal ?_
      refine St.seq ?_
      refine St.rg ?_
      refine St.ev _ (Ev.assign (Opd.mk rfl)) rfl ?_
      refine St.nil ?_
      refine St.then_normal ?_
      refine St.rett ?_
      refine St.rets [_] [] Try.results32 ⟨rfl, trivial⟩ ?_ (fun _ hw => hw.sub)
      exact be (isName_good (by omega) (by omega) (by simp only [low, Bool.and_eq_true, decide_eq_true_eq]; omega) (all_of_take hall (by omega))).symm

theorem IsName_spec (s : Str) (hs : s.length ≤ 9223372036854775807) : FnV Try.prog 27 #[sv s] [] (.bool (isName s)) := by
  refine FnV.body0 (args := [sv s]) 52 Try.func27 rfl Try.ntmps27 rfl (fun c => ?_)
  refine St.seq ?_
  refine St.rg ?_
  refine St.ev _ (Ev.assign (Opd.mk rfl)) rfl ?_
  refine St.nil ?_
  refine St.then_normal ?_
  refine St.seq ?_
  refine St.seq ?_
  refine St.rg ?_
  refine St.ev _ (Ev.move (Opd.mk rfl)) rfl ?_
  refine St.ev _ (Ev.lenstr (Opd.mk rfl) Try.underlying9) rfl ?_
  refine St.ev _ (Ev.lss (Opd.mk rfl) (Opd.mk rfl)) rfl ?_
  refine St.ev _ (Ev.move (Opd.mk rfl)) rfl ?_
  refine St.gf _ rfl rfl (fun hg => Ev.move (Opd.mk rfl)) rfl ?_
  refine St.gf _ rfl rfl (fun hg => Ev.lenstr (Opd.gv rfl hg) Try.underlying9) rfl ?_
  refine St.gf _ rfl rfl (fun hg => Ev.gtr (Opd.gv rfl hg) (Opd.mk rfl)) rfl ?_
  refine St.ev _ (Ev.or (Opd.mk rfl) (fun hp => Opd.gv rfl hp)) rfl ?_
  refine St.nil ?_
  refine St.then_normal ?_
  refine St.cond _ rfl (fun h13 => ?_) (fun h13 => ?_)
  · skip
    try simp only [Bool.and_true, Bool.true_and, decide_eq_true_eq, decide_eq_false_iff_not, Bool.and_eq_true, Bool.or_eq_true, Bool.and_eq_false_iff, Bool.or_eq_false_iff, Bool.not_eq_true', Bool.not_eq_false', beq_iff_eq, beq_eq_false_iff_ne, Int.not_lt, Int.not_le] at h13
    refine St.seq ?_
    refine St.rg ?_
    refine St.ev _ (Ev.assign (Opd.mk rfl)) rfl ?_
    refine St.nil ?_
    refine St.then_normal ?_
    refine St.rett ?_
    refine St.then_ret ?_
    refine St.rets [_] [] Try.results27 ⟨rfl, trivial⟩ ?_ (fun _ hw => hw.sub)
    exact be (isName_bad1 (by omega)).symm
  · skip
    try simp only [Bool.and_true, Bool.true_and, decide_eq_true_eq, decide_eq_false_iff_not, Bool.and_eq_true, Bool.or_eq_true, Bool.and_eq_false_iff, Bool.or_eq_false_iff, Bool.not_eq_true', Bool.not_eq_false', beq_iff_eq, beq_eq_false_iff_ne, Int.not_lt, Int.not_le] at h13
    refine St.skip ?_
    refine St.then_normal ?_
    refine St.seq ?_
    refine St.seq ?_
    refine St.rg ?_
    refine St.ev _ (Ev.assign (Opd.mk rfl)) rfl ?_
    refine St.nil ?_
    refine St.then_normal ?_
    refine St.block ?_
    refine St.loopS (ι := Nat) (fun k T => (3, iv k) :: T) (fun k => k ≤ s.length ∧ (s.take k).all nameRest = true ∧ (0 < k → low (s.getD 0 0) = true)) (fun k => s.length - k) 0 (Keep.cons 0 rfl Keep.nil) ⟨Nat.zero_le _, rfl, by omega⟩ (by repeat (first | exact Sub.nil | refine Sub.cons (by first | rfl | exact congrArg (fun z => some (iv z)) (by first | omega | (dsimp only; omega)) | exact congrArg (fun z => some (Value.bool z)) (by first | assumption | exact Eq.symm (by assumption))) ?_)) ?_
    intro k hphi
    obtain ⟨hk, hall, hlow⟩ := hphi
    refine St.seq ?_
    refine St.seq ?_
    refine St.rg ?_
    refine St.ev _ (Ev.move (Opd.mk rfl)) rfl ?_
    refine St.ev _ (Ev.move (Opd.mk rfl)) rfl ?_
    refine St.ev _ (Ev.lenstr (Opd.mk rfl) Try.underlying9) rfl ?_
    refine St.ev _ (Ev.lss (Opd.mk rfl) (Opd.mk rfl)) rfl ?_
    refine St.nil ?_
    refine St.then_normal ?_
    refine St.cond _ rfl (fun h17 => ?_) (fun h17 => ?_)
    · skip
      try simp only [Bool.and_true, Bool.true_and, decide_eq_true_eq, decide_eq_false_iff_not, Bool.and_eq_true, Bool.or_eq_true, Bool.and_eq_false_iff, Bool.or_eq_false_iff, Bool.not_eq_true', Bool.not_eq_false', beq_iff_eq, beq_eq_false_iff_ne, Int.not_lt, Int.not_le] at h17
      refine St.skip ?_
      refine St.then_normal ?_
      refine St.seq ?_
      refine St.block ?_
      refine St.seq ?_
      refine St.rg ?_
      refine St.ev _ (Ev.move (Opd.mk rfl)) rfl ?_
      refine St.ev _ (Ev.move (Opd.mk rfl)) rfl ?_
      refine St.ev _ (Ev.idxstr0  (Opd.mk rfl) (Opd.mk rfl) Try.underlying9 rfl (by omega)) rfl ?_
      refine St.ev _ (Ev.assign (Opd.mk rfl)) rfl ?_
      refine St.nil ?_
      refine St.then_normal ?_
      refine St.seq ?_
      refine St.rg ?_
      refine St.ev _ (Ev.move (Opd.mk rfl)) rfl ?_
      refine St.ev _ (Ev.geq (Opd.mk rfl) (Opd.mk rfl)) rfl ?_
      refine St.ev _ (Ev.move (Opd.mk rfl)) rfl ?_
      refine St.gt _ rfl rfl (fun hg => Ev.move (Opd.mk rfl)) rfl ?_
      refine St.gt _ rfl rfl (fun hg => Ev.leq (Opd.gv rfl hg) (Opd.mk rfl)) rfl ?_
      refine St.ev _ (Ev.and (Opd.mk rfl) (fun hp => Opd.gv rfl hp)) rfl ?_
      refine St.ev _ (Ev.assign (Opd.mk rfl)) rfl ?_
      refine St.nil ?_
      refine St.then_normal ?_
      refine St.seq ?_
      refine St.rg ?_
      refine St.ev _ (Ev.move (Opd.mk rfl)) rfl ?_
      refine St.ev _ (Ev.not (Opd.mk rfl)) rfl ?_
      refine St.ev _ (Ev.move (Opd.mk rfl)) rfl ?_
      refine St.gt _ rfl rfl (fun hg => Ev.move (Opd.mk rfl)) rfl ?_
      refine St.gt _ rfl rfl (fun hg => Ev.eql (Opd.gv rfl hg) (Opd.mk rfl)) rfl ?_
      refine St.gt _ rfl rfl (fun hg => Ev.move (Opd.gv rfl hg)) rfl ?_
      refine St.gcf _ rfl rfl (fun hg => Ev.move (Opd.mk rfl)) rfl ?_
      refine St.gcf _ rfl rfl (fun hg => Ev.geq (Opd.gv rfl hg) (Opd.mk rfl)) rfl ?_
      refine St.gcf _ rfl rfl (fun hg => Ev.move (Opd.gv rfl hg)) rfl ?_
      refine St.gct _ rfl rfl (fun hg => Ev.move (Opd.mk rfl)) rfl ?_
      refine St.gct _ rfl rfl (fun hg => Ev.leq (Opd.gv rfl hg) (Opd.mk rfl)) rfl ?_
      refine St.gcf _ rfl rfl (fun hg => Ev.and (Opd.gv rfl hg) (fun hp => Opd.gv rfl (and_i hg hp))) rfl ?_
      refine St.gcf _ rfl rfl (fun hg => Ev.not (Opd.gv rfl hg)) rfl ?_
      refine St.gcf _ rfl rfl (fun hg => Ev.move (Opd.gv rfl hg)) rfl ?_
      refine St.gct _ rfl rfl (fun hg => Ev.move (Opd.mk rfl)) rfl ?_
      refine St.gct _ rfl rfl (fun hg => Ev.neq (Opd.gv rfl hg) (Opd.mk rfl)) rfl ?_
      refine St.gcf _ rfl rfl (fun hg => Ev.and (Opd.gv rfl hg) (fun hp => Opd.gv rfl (and_i hg hp))) rfl ?_
      refine St.gcf _ rfl rfl (fun hg => Ev.move (Opd.gv rfl hg)) rfl ?_
      refine St.gct _ rfl rfl (fun hg => Ev.move (Opd.mk rfl)) rfl ?_
      refine St.gct _ rfl rfl (fun hg => Ev.neq (Opd.gv rfl hg) (Opd.mk rfl)) rfl ?_
      refine St.gcf _ rfl rfl (fun hg => Ev.and (Opd.gv rfl hg) (fun hp => Opd.gv rfl (and_i hg hp))) rfl ?_
      refine St.gt _ rfl rfl (fun hg => Ev.or (Opd.gv rfl hg) (fun hp => Opd.gv rfl (and_i hg hp))) rfl ?_
      refine St.ev _ (Ev.and (Opd.mk rfl) (fun hp => Opd.gv rfl hp)) rfl ?_
      refine St.nil ?_
      refine St.then_normal ?_
      refine St.cond _ rfl (fun h51 => ?_) (fun h51 => ?_)
      · skip
        try simp only [Bool.and_true, Bool.true_and, decide_eq_true_eq, decide_eq_false_iff_not, Bool.and_eq_true, Bool.or_eq_true, Bool.and_eq_false_iff, Bool.or_eq_false_iff, Bool.not_eq_true', Bool.not_eq_false', beq_iff_eq, beq_eq_false_iff_ne, Int.not_lt, Int.not_le] at h51
        refine St.seq ?_
        refine St.rg ?_
        refine St.ev _ (Ev.assign (Opd.mk rfl)) rfl ?_
        refine St.nil ?_
        refine St.then_normal ?_
        refine St.rett ?_
        refine St.in_ret ?_
        refine St.then_ret ?_
        refine St.then_ret ?_
        refine St.in_ret ?_
        refine St.then_ret ?_
        refine St.rets [_] [] Try.results27 ⟨rfl, trivial⟩ ?_ (fun _ hw => hw.sub)
        rcases Nat.eq_zero_or_pos k with rfl | h0
        · exact be (isName_bad1 (by omega)).symm
        · exact be (isName_bad2 (k := k) (by omega) (by simp only [nameRest, low, digit, Bool.and_eq_false_iff, Bool.or_eq_false_iff, decide_eq_false_iff_not]; omega)).symm
      · skip
        try simp only [Bool.and_true, Bool.true_and, decide_eq_true_eq, decide_eq_false_iff_not, Bool.and_eq_true, Bool.or_eq_true, Bool.and_eq_false_iff, Bool.or_eq_false_iff, Bool.not_eq_true', Bool.not_eq_false', beq_iff_eq, beq_eq_false_iff_ne, Int.not_lt, Int.not_le] at h51
        refine St.skip ?_
        refine St.in_normal ?_
        refine St.then_normal ?_
        refine St.rg ?_
        refine St.ev _ (Ev.move (Opd.mk rfl)) rfl ?_
        refine St.ev _ (Ev.add (Opd.mk rfl) (Opd.mk rfl) (by omega)) rfl ?_
        refine St.ev _ (Ev.assign (Opd.mk rfl)) rfl ?_
        refine St.nil ?_
        refine St.then_normal ?_
        have hy : k + 1 ≤ s.length ∧ (s.take (k + 1)).all nameRest = true ∧ (0 < k + 1 → low (s.getD 0 0) = true) := by
          refine ⟨by omega, all_take_succ (d := 0) hall (by simp only [nameRest, low, digit, Bool.and_eq_true, Bool.or_eq_true, decide_eq_true_eq]; omega), fun _ => ?_⟩
          rcases Nat.eq_zero_or_pos k with rfl | h0
          · simp only [low, Bool.and_eq_true, decide_eq_true_eq]; omega
          · exact hlow h0
        refine St.againS (k + 1) hy (by first | omega | (dsimp only; omega)) (by repeat (first | exact Sub.nil | refine Sub.cons (by first | rfl | exact congrArg (fun z => some (iv z)) (by first | omega | (dsimp only; omega)) | exact congrArg (fun z => some (Value.bool z)) (by first | assumption | exact Eq.symm (by assumption))) ?_)) (fun _ hw => hw.sub)
    · skip
      try simp only [Bool.and_true, Bool.true_and, decide_eq_true_eq, decide_eq_false_iff_not, Bool.and_eq_true, Bool.or_eq_true, Bool.and_eq_false_iff, Bool.or_eq_false_iff, Bool.not_eq_true', Bool.not_eq_false', beq_iff_eq, beq_eq_false_iff_ne, Int.not_lt, Int.not_le] at h17
      refine St.exit ?_
      refine St.then_exit ?_
      refine St.then_exit ?_
      refine St.in_hit ?_
      refine St.then_normal ?_
      refine St.seq ?_
      refine St.rg ?_
      refine St.ev _ (Ev.assign (Opd.mk rfl)) rfl ?_
      refine St.nil ?_
      refine St.then_normal ?_
      refine St.rett ?_
      refine St.rets [_] [] Try.results27 ⟨rfl, trivial⟩ ?_ (fun _ hw => hw.sub)
      exact be (isName_good (by omega) (by omega) (hlow (by omega)) (all_of_take hall (by omega))).symm

theorem Validate_spec (v0 : Value) (rules : List Prec) : FnV Try.prog 15 #[v0] [sl precR v0 rules] (fv (vfault rules)) := by
  unfold fv
  refine FnV.body1 (args := [v0]) 68 Try.func15 rfl Try.ntmps15 rfl (fun c => ?_)
  refine St.seq ?_
  refine St.wf v0 (fun hwf hlen => ?_)
  refine St.rg ?_
  refine St.alloc zc27 rfl (fun b2 => ?_)
  refine St.nil ?_
  refine St.then_normal ?_
  refine St.seq ?_
  refine St.seq ?_
  refine St.rg ?_
  refine St.ev _ (Ev.move (Opd.mk rfl)) rfl ?_
  refine St.ev _ (Ev.lensl (Opd.mk rfl) Try.underlying22) rfl ?_
  refine St.ev _ (Ev.gtr (Opd.mk rfl) (Opd.mk rfl)) rfl ?_
  refine St.nil ?_
  refine St.then_normal ?_
  refine St.cond _ rfl (fun h8 => ?_) (fun h8 => ?_)
  · skip
    try simp only [Bool.and_true, Bool.true_and, decide_eq_true_eq, decide_eq_false_iff_not, Bool.and_eq_true, Bool.or_eq_true, Bool.and_eq_false_iff, Bool.or_eq_false_iff, Bool.not_eq_true', Bool.not_eq_false', beq_iff_eq, beq_eq_false_iff_ne, Int.not_lt, Int.not_le] at h8
    refine St.seq ?_
    refine St.rg ?_
    refine St.ev _ (Ev.build (ps := [(0, (Operand.const (Value.int IntKind.i64 2))), (1, (Operand.const (Value.int IntKind.i64 (-1))))]) (Opds.cons (Opd.mk rfl) (Opds.cons (Opd.mk rfl) Opds.nil)) (fun w => bld27_0_1 rfl rfl w)) rfl ?_
    refine St.storeA (Opd.mk rfl) (Opd.mk rfl) sz27 (by first | simp only [List.length_cons, List.length_nil] | rfl) rfl ?_
    refine St.nil ?_
    refine St.then_normal ?_
    refine St.rett ?_
    refine St.then_ret ?_
    refine St.rets [_] [] Try.results15 ⟨⟨_, _, _, _, rfl, InB.mem, .inl ⟨⟨_, Try.underlying27⟩, sz27, rfl⟩⟩, trivial⟩ ?_ (fun _ hw => hw.sub)
    exact fe (vfault_big (by omega))
  · skip
    try simp only [Bool.and_true, Bool.true_and, decide_eq_true_eq, decide_eq_false_iff_not, Bool.and_eq_true, Bool.or_eq_true, Bool.and_eq_false_iff, Bool.or_eq_false_iff, Bool.not_eq_true', Bool.not_eq_false', beq_iff_eq, beq_eq_false_iff_ne, Int.not_lt, Int.not_le] at h8
    refine St.skip ?_
    refine St.then_normal ?_
    refine St.seq ?_
    refine St.seq ?_
    refine St.rg ?_
    refine St.ev _ (Ev.move (Opd.mk rfl)) rfl ?_
    refine St.ev _ (Ev.lensl (Opd.mk rfl) Try.underlying22) rfl ?_
    refine St.ev _ (Ev.move (Opd.mk rfl)) rfl ?_
    refine St.nil ?_
    refine St.then_normal ?_
    refine St.block ?_
    refine St.loopS (ι := Nat) (fun k T => (12, iv k) :: T) (fun k => k ≤ rules.length ∧ vfault rules = vfFrom k (rules.drop k)) (fun k => rules.length - k) 0 (Keep.cons 2 rfl (Keep.cons 10 rfl (Keep.cons 11 rfl Keep.nil))) ⟨Nat.zero_le _, vfault_from (by omega)⟩ (by repeat (first | exact Sub.nil | refine Sub.cons (by first | rfl | exact congrArg (fun z => some (iv z)) (by first | omega | (dsimp only; omega)) | exact congrArg (fun z => some (Value.bool z)) (by first | assumption | exact Eq.symm (by assumption))) ?_)) ?_
    intro k hphi
    obtain ⟨hk, hv⟩ := hphi
    refine St.seq ?_
    refine St.rg ?_
    refine St.ev _ (Ev.lss (Opd.mk rfl) (Opd.mk rfl)) rfl ?_
    refine St.nil ?_
    refine St.then_normal ?_
    refine St.seq ?_
    refine St.cond _ rfl (fun h13 => ?_) (fun h13 => ?_)
    · skip
      try simp only [Bool.and_true, Bool.true_and, decide_eq_true_eq, decide_eq_false_iff_not, Bool.and_eq_true, Bool.or_eq_true, Bool.and_eq_false_iff, Bool.or_eq_false_iff, Bool.not_eq_true', Bool.not_eq_false', beq_iff_eq, beq_eq_false_iff_ne, Int.not_lt, Int.not_le] at h13
      obtain ⟨p, hp⟩ := some_of_lt (show k < rules.length by omega)
      obtain ⟨hw1, hw2, hw3⟩ := hwf p (List.mem_of_getElem? hp)
      refine St.skip ?_
      refine St.then_normal ?_
      refine St.seq ?_
      refine St.block ?_
      refine St.seq ?_
      refine St.rg ?_
      refine St.ev _ (Ev.move (Opd.mk rfl)) rfl ?_
      refine St.ev _ (Ev.idxaddr  (Opd.mk rfl) (Opd.mk rfl) Try.underlying22 sz34 rfl (by omega)) rfl ?_
      refine St.ev _ (Ev.ldA (Opd.mk rfl) (by first | assumption | exact some_getD default (by omega)) Try.underlying34 trivial sz34 Cel.eq) rfl ?_
      refine St.alloc zc34 rfl (fun b4 => ?_)
      refine St.ev _ (Ev.assign (Opd.mk rfl)) rfl ?_
      refine St.storeA (Opd.mk rfl) (Opd.mk rfl) sz34 (by first | simp only [List.length_cons, List.length_nil] | rfl) rfl ?_
      refine St.nil ?_
      refine St.then_normal ?_
      refine St.seq ?_
      refine St.rg ?_
      refine St.ev _ (Ev.fldb0 (Opd.mk rfl) fo34_0) rfl ?_
      refine St.ev _ (Ev.ldb (Opd.mk rfl) Try.underlying3 trivial (by rfl)) rfl ?_
      refine St.ev _ (Ev.eql (Opd.mk rfl) (Opd.mk rfl)) rfl ?_
      refine St.ev _ (Ev.move (Opd.mk rfl)) rfl ?_
      refine St.gf _ rfl rfl (fun hg => Ev.fldb0 (Opd.mk rfl) fo34_0) rfl ?_
      refine St.gf _ rfl rfl (fun hg => Ev.ldb (Opd.gv rfl hg) Try.underlying3 trivial (by rfl)) rfl ?_
      refine St.gf _ rfl rfl (fun hg => Ev.eql (Opd.gv rfl hg) (Opd.mk rfl)) rfl ?_
      refine St.ev _ (Ev.or (Opd.mk rfl) (fun hp => Opd.gv rfl hp)) rfl ?_
      refine St.ev _ (Ev.assign (Opd.mk rfl)) rfl ?_
      refine St.nil ?_
      refine St.then_normal ?_
      refine St.block ?_
      refine St.seq ?_
      refine St.rg ?_
      refine St.ev _ (Ev.move (Opd.mk rfl)) rfl ?_
      refine St.ev _ (Ev.not (Opd.mk rfl)) rfl ?_
      refine St.ev _ (Ev.move (Opd.mk rfl)) rfl ?_
      refine St.gt _ rfl rfl (fun hg => Ev.fldb0 (Opd.mk rfl) fo34_0) rfl ?_
      refine St.gt _ rfl rfl (fun hg => Ev.ldb (Opd.gv rfl hg) Try.underlying3 trivial (by rfl)) rfl ?_
      refine St.gt _ rfl rfl (fun hg => Ev.neq (Opd.gv rfl hg) (Opd.mk rfl)) rfl ?_
      refine St.ev _ (Ev.and (Opd.mk rfl) (fun hp => Opd.gv rfl hp)) rfl ?_
      refine St.ev _ (Ev.move (Opd.mk rfl)) rfl ?_
      refine St.gt _ rfl rfl (fun hg => Ev.fldb0 (Opd.mk rfl) fo34_0) rfl ?_
      refine St.gt _ rfl rfl (fun hg => Ev.ldb (Opd.gv rfl hg) Try.underlying3 trivial (by rfl)) rfl ?_
      refine St.gt _ rfl rfl (fun hg => Ev.neq (Opd.gv rfl hg) (Opd.mk rfl)) rfl ?_
      refine St.ev _ (Ev.and (Opd.mk rfl) (fun hp => Opd.gv rfl hp)) rfl ?_
      refine St.ev _ (Ev.assign (Opd.mk rfl)) rfl ?_
      refine St.nil ?_
      refine St.then_normal ?_
      refine St.cond _ rfl (fun h25 => ?_) (fun h25 => ?_)
      · skip
        try simp only [Bool.and_true, Bool.true_and, decide_eq_true_eq, decide_eq_false_iff_not, Bool.and_eq_true, Bool.or_eq_true, Bool.and_eq_false_iff, Bool.or_eq_false_iff, Bool.not_eq_true', Bool.not_eq_false', beq_iff_eq, beq_eq_false_iff_ne, Int.not_lt, Int.not_le] at h25
        refine St.seq ?_
        refine St.rg ?_
        refine St.ev _ (Ev.move (Opd.mk rfl)) rfl ?_
        refine St.ev _ (Ev.build (ps := [(0, (Operand.const (Value.int IntKind.i64 4))), (1, (Operand.tmp 38))]) (Opds.cons (Opd.mk rfl) (Opds.cons (Opd.mk rfl) Opds.nil)) (fun w => bld27_0_1 rfl rfl w)) rfl ?_
        refine St.storeA (Opd.mk rfl) (Opd.mk rfl) sz27 (by first | simp only [List.length_cons, List.length_nil] | rfl) rfl ?_
        refine St.nil ?_
        refine St.then_normal ?_
        refine St.rett ?_
        refine St.in_ret ?_
        refine St.in_ret ?_
        refine St.then_ret ?_
        refine St.then_ret ?_
        refine St.in_ret ?_
        refine St.then_ret ?_
        refine St.rets [_] [] Try.results15 ⟨⟨_, _, _, _, rfl, InB.mem, .inl ⟨⟨_, Try.underlying27⟩, sz27, rfl⟩⟩, trivial⟩ ?_ (fun _ hw => hw.sub)
        exact fe (vf_bad hv hp (badRule_kind (by omega)) (by decide))
      · skip
        try simp only [Bool.and_true, Bool.true_and, decide_eq_true_eq, decide_eq_false_iff_not, Bool.and_eq_true, Bool.or_eq_true, Bool.and_eq_false_iff, Bool.or_eq_false_iff, Bool.not_eq_true', Bool.not_eq_false', beq_iff_eq, beq_eq_false_iff_ne, Int.not_lt, Int.not_le] at h25
        refine St.seq ?_
        refine St.rg ?_
        refine St.ev _ (Ev.fldb0 (Opd.mk rfl) fo34_1) rfl ?_
        refine St.ev _ (Ev.ldb (Opd.mk rfl) Try.underlying9 trivial (by rfl)) rfl ?_
        refine St.ev _ (Ev.call (Name_spec p.a (by omega)) cb32 (Opds.cons (Opd.mk rfl) Opds.nil)) rfl ?_
        refine St.ev _ (Ev.not (Opd.mk rfl)) rfl ?_
        refine St.ev _ (Ev.move (Opd.mk rfl)) rfl ?_
        refine St.gf _ rfl rfl (fun hg => Ev.move (Opd.mk rfl)) rfl ?_
        refine St.gf _ rfl rfl (fun hg => Ev.move (Opd.gv rfl hg)) rfl ?_
        refine St.gct _ rfl rfl (fun hg => Ev.fldb0 (Opd.mk rfl) fo34_2) rfl ?_
        refine St.gct _ rfl rfl (fun hg => Ev.ldb (Opd.gv rfl hg) Try.underlying9 trivial (by rfl)) rfl ?_
        refine St.gct _ rfl rfl (fun hg => Ev.call (Name_spec p.b (by omega)) cb32 (Opds.cons (Opd.gv rfl hg) Opds.nil)) rfl ?_
        refine St.gct _ rfl rfl (fun hg => Ev.not (Opd.gv rfl hg)) rfl ?_
        refine St.gf _ rfl rfl (fun hg => Ev.and (Opd.gv rfl hg) (fun hp => Opd.gv rfl (and_i hg hp))) rfl ?_
        refine St.ev _ (Ev.or (Opd.mk rfl) (fun hp => Opd.gv rfl hp)) rfl ?_
        refine St.ev _ (Ev.assign (Opd.mk rfl)) rfl ?_
        refine St.nil ?_
        refine St.then_normal ?_
        refine St.cond _ rfl (fun h40 => ?_) (fun h40 => ?_)
        · skip
          try simp only [Bool.and_true, Bool.true_and, decide_eq_true_eq, decide_eq_false_iff_not, Bool.and_eq_true, Bool.or_eq_true, Bool.and_eq_false_iff, Bool.or_eq_false_iff, Bool.not_eq_true', Bool.not_eq_false', beq_iff_eq, beq_eq_false_iff_ne, Int.not_lt, Int.not_le] at h40
          refine St.seq ?_
          refine St.rg ?_
          refine St.ev _ (Ev.move (Opd.mk rfl)) rfl ?_
          refine St.ev _ (Ev.build (ps := [(0, (Operand.const (Value.int IntKind.i64 10))), (1, (Operand.tmp 54))]) (Opds.cons (Opd.mk rfl) (Opds.cons (Opd.mk rfl) Opds.nil)) (fun w => bld27_0_1 rfl rfl w)) rfl ?_
          refine St.storeA (Opd.mk rfl) (Opd.mk rfl) sz27 (by first | simp only [List.length_cons, List.length_nil] | rfl) rfl ?_
          refine St.nil ?_
          refine St.then_normal ?_
          refine St.rett ?_
          refine St.in_ret ?_
          refine St.in_ret ?_
          refine St.then_ret ?_
          refine St.then_ret ?_
          refine St.in_ret ?_
          refine St.then_ret ?_
          refine St.rets [_] [] Try.results15 ⟨⟨_, _, _, _, rfl, InB.mem, .inl ⟨⟨_, Try.underlying27⟩, sz27, rfl⟩⟩, trivial⟩ ?_ (fun _ hw => hw.sub)
          exact fe (vf_bad hv hp (badRule_name (by omega) (by simpa using h40)) (by decide))
        · skip
          try simp only [Bool.and_true, Bool.true_and, decide_eq_true_eq, decide_eq_false_iff_not, Bool.and_eq_true, Bool.or_eq_true, Bool.and_eq_false_iff, Bool.or_eq_false_iff, Bool.not_eq_true', Bool.not_eq_false', beq_iff_eq, beq_eq_false_iff_ne, Int.not_lt, Int.not_le] at h40
          refine St.seq ?_
          refine St.rg ?_
          refine St.ev _ (Ev.move (Opd.mk rfl)) rfl ?_
          refine St.ev _ (Ev.not (Opd.mk rfl)) rfl ?_
          refine St.ev _ (Ev.move (Opd.mk rfl)) rfl ?_
          refine St.gt _ rfl rfl (fun hg => Ev.fldb0 (Opd.mk rfl) fo34_2) rfl ?_
          refine St.gt _ rfl rfl (fun hg => Ev.ldb (Opd.gv rfl hg) Try.underlying9 trivial (by rfl)) rfl ?_
          refine St.gt _ rfl rfl (fun hg => Ev.strne (Opd.gv rfl hg) (Opd.mk rfl)) rfl ?_
          refine St.ev _ (Ev.and (Opd.mk rfl) (fun hp => Opd.gv rfl hp)) rfl ?_
          refine St.ev _ (Ev.assign (Opd.mk rfl)) rfl ?_
          refine St.nil ?_
          refine St.then_normal ?_
          refine St.cond _ rfl (fun h56 => ?_) (fun h56 => ?_)
          · skip
            try simp only [Bool.and_true, Bool.true_and, decide_eq_true_eq, decide_eq_false_iff_not, Bool.and_eq_true, Bool.or_eq_true, Bool.and_eq_false_iff, Bool.or_eq_false_iff, Bool.not_eq_true', Bool.not_eq_false', beq_iff_eq, beq_eq_false_iff_ne, Int.not_lt, Int.not_le] at h56
            refine St.seq ?_
            refine St.rg ?_
            refine St.ev _ (Ev.move (Opd.mk rfl)) rfl ?_
            refine St.ev _ (Ev.build (ps := [(0, (Operand.const (Value.int IntKind.i64 5))), (1, (Operand.tmp 64))]) (Opds.cons (Opd.mk rfl) (Opds.cons (Opd.mk rfl) Opds.nil)) (fun w => bld27_0_1 rfl rfl w)) rfl ?_
            refine St.storeA (Opd.mk rfl) (Opd.mk rfl) sz27 (by first | simp only [List.length_cons, List.length_nil] | rfl) rfl ?_
            refine St.nil ?_
            refine St.then_normal ?_
            refine St.rett ?_
            refine St.in_ret ?_
            refine St.in_ret ?_
            refine St.then_ret ?_
            refine St.then_ret ?_
            refine St.in_ret ?_
            refine St.then_ret ?_
            refine St.rets [_] [] Try.results15 ⟨⟨_, _, _, _, rfl, InB.mem, .inl ⟨⟨_, Try.underlying27⟩, sz27, rfl⟩⟩, trivial⟩ ?_ (fun _ hw => hw.sub)
            exact fe (vf_bad hv hp (by rw [badRule_rest (by omega) (by simpa using h40.1) (fun h => by rcases h40.2 with h4 | h4; omega; exact h4), if_pos (by constructor; omega; exact h56.2)]) (by decide))
          · skip
            try simp only [Bool.and_true, Bool.true_and, decide_eq_true_eq, decide_eq_false_iff_not, Bool.and_eq_true, Bool.or_eq_true, Bool.and_eq_false_iff, Bool.or_eq_false_iff, Bool.not_eq_true', Bool.not_eq_false', beq_iff_eq, beq_eq_false_iff_ne, Int.not_lt, Int.not_le] at h56
            refine St.skip ?_
            refine St.in_normal ?_
            refine St.in_normal ?_
            refine St.then_normal ?_
            refine St.rg ?_
            refine St.ev _ (Ev.add (Opd.mk rfl) (Opd.mk rfl) (by omega)) rfl ?_
            refine St.ev _ (Ev.move (Opd.mk rfl)) rfl ?_
            refine St.nil ?_
            refine St.then_normal ?_
            refine St.againS (k + 1) ⟨by omega, vf_good hv hp (by rw [badRule_rest (by omega) (by simpa using h40.1) (fun h => by rcases h40.2 with h4 | h4; omega; exact h4), if_neg (by rintro ⟨q1, q2⟩; rcases h56 with q | q; exact q1 q; exact q2 q)])⟩ (by first | omega | (dsimp only; omega)) (by repeat (first | exact Sub.nil | refine Sub.cons (by first | rfl | exact congrArg (fun z => some (iv z)) (by first | omega | (dsimp only; omega)) | exact congrArg (fun z => some (Value.bool z)) (by first | assumption | exact Eq.symm (by assumption))) ?_)) (fun _ hw => hw.sub)
    · skip
      try simp only [Bool.and_true, Bool.true_and, decide_eq_true_eq, decide_eq_false_iff_not, Bool.and_eq_true, Bool.or_eq_true, Bool.and_eq_false_iff, Bool.or_eq_false_iff, Bool.not_eq_true', Bool.not_eq_false', beq_iff_eq, beq_eq_false_iff_ne, Int.not_lt, Int.not_le] at h13
      refine St.exit ?_
      refine St.then_exit ?_
      refine St.then_exit ?_
      refine St.in_hit ?_
      refine St.then_normal ?_
      refine St.seq ?_
      refine St.rg ?_
      refine St.ev _ (Ev.build (ps := []) (Opds.nil) (fun w => bld27_  w)) rfl ?_
      refine St.storeA (Opd.mk rfl) (Opd.mk rfl) sz27 (by first | simp only [List.length_cons, List.length_nil] | rfl) rfl ?_
      refine St.nil ?_
      refine St.then_normal ?_
      refine St.rett ?_
      refine St.rets [_] [] Try.results15 ⟨⟨_, _, _, _, rfl, InB.mem, .inl ⟨⟨_, Try.underlying27⟩, sz27, rfl⟩⟩, trivial⟩ ?_ (fun _ hw => hw.sub)
      exact fe (vf_end hv (by omega))

theorem OrderFault_spec (v0 : Value) (rules : List Prec) : FnV Try.prog 16 #[v0] [sl precR v0 rules] (fv (vfault rules)) := by
  refine FnV.body1 (args := [v0]) 57 Try.func16 rfl Try.ntmps16 rfl (fun c => ?_)
  refine St.seq ?_
  refine St.wf v0 (fun hwf hlen => ?_)
  refine St.rg ?_
  refine St.alloc zc27 rfl (fun b2 => ?_)
  refine St.nil ?_
  refine St.then_normal ?_
  refine St.seq ?_
  refine St.seq ?_
  refine St.rg ?_
  refine St.ev _ (Ev.move (Opd.mk rfl)) rfl ?_
  refine St.ev _ (Ev.lensl (Opd.mk rfl) Try.underlying22) rfl ?_
  refine St.ev _ (Ev.gtr (Opd.mk rfl) (Opd.mk rfl)) rfl ?_
  refine St.nil ?_
  refine St.then_normal ?_
  refine St.cond _ rfl (fun h7 => ?_) (fun h7 => ?_)
  · skip
    try simp only [Bool.and_true, Bool.true_and, decide_eq_true_eq, decide_eq_false_iff_not, Bool.and_eq_true, Bool.or_eq_true, Bool.and_eq_false_iff, Bool.or_eq_false_iff, Bool.not_eq_true', Bool.not_eq_false', beq_iff_eq, beq_eq_false_iff_ne, Int.not_lt, Int.not_le] at h7
    refine St.seq ?_
    refine St.rg ?_
    refine St.ev _ (Ev.build (ps := [(0, (Operand.const (Value.int IntKind.i64 2))), (1, (Operand.const (Value.int IntKind.i64 (-1))))]) (Opds.cons (Opd.mk rfl) (Opds.cons (Opd.mk rfl) Opds.nil)) (fun w => bld27_0_1 rfl rfl w)) rfl ?_
    refine St.storeA (Opd.mk rfl) (Opd.mk rfl) sz27 (by first | simp only [List.length_cons, List.length_nil] | rfl) rfl ?_
    refine St.nil ?_
    refine St.then_normal ?_
    refine St.rett ?_
    refine St.then_ret ?_
    refine St.rets [_] [] Try.results16 ⟨⟨_, _, _, _, rfl, InB.mem, .inl ⟨⟨_, Try.underlying27⟩, sz27, rfl⟩⟩, trivial⟩ ?_ (fun _ hw => hw.sub)
    exact fe (vfault_big (by omega))
  · skip
    try simp only [Bool.and_true, Bool.true_and, decide_eq_true_eq, decide_eq_false_iff_not, Bool.and_eq_true, Bool.or_eq_true, Bool.and_eq_false_iff, Bool.or_eq_false_iff, Bool.not_eq_true', Bool.not_eq_false', beq_iff_eq, beq_eq_false_iff_ne, Int.not_lt, Int.not_le] at h7
    refine St.skip ?_
    refine St.then_normal ?_
    refine St.seq ?_
    refine St.seq ?_
    refine St.rg ?_
    refine St.ev _ (Ev.assign (Opd.mk rfl)) rfl ?_
    refine St.nil ?_
    refine St.then_normal ?_
    refine St.block ?_
    refine St.loopS (ι := Nat) (fun k T => (3, iv k) :: T) (fun k => k ≤ rules.length ∧ vfault rules = vfFrom k (rules.drop k)) (fun k => rules.length - k) 0 (Keep.cons 0 rfl (Keep.cons 2 rfl Keep.nil)) ⟨Nat.zero_le _, vfault_from (by omega)⟩ (by repeat (first | exact Sub.nil | refine Sub.cons (by first | rfl | exact congrArg (fun z => some (iv z)) (by first | omega | (dsimp only; omega)) | exact congrArg (fun z => some (Value.bool z)) (by first | assumption | exact Eq.symm (by assumption))) ?_)) ?_
    intro k hphi
    obtain ⟨hk, hv⟩ := hphi
    refine St.seq ?_
    refine St.seq ?_
    refine St.rg ?_
    refine St.ev _ (Ev.move (Opd.mk rfl)) rfl ?_
    refine St.ev _ (Ev.move (Opd.mk rfl)) rfl ?_
    refine St.ev _ (Ev.lensl (Opd.mk rfl) Try.underlying22) rfl ?_
    refine St.ev _ (Ev.lss (Opd.mk rfl) (Opd.mk rfl)) rfl ?_
    refine St.nil ?_
    refine St.then_normal ?_
    refine St.cond _ rfl (fun h12 => ?_) (fun h12 => ?_)
    · skip
      try simp only [Bool.and_true, Bool.true_and, decide_eq_true_eq, decide_eq_false_iff_not, Bool.and_eq_true, Bool.or_eq_true, Bool.and_eq_false_iff, Bool.or_eq_false_iff, Bool.not_eq_true', Bool.not_eq_false', beq_iff_eq, beq_eq_false_iff_ne, Int.not_lt, Int.not_le] at h12
      obtain ⟨p, hp⟩ := some_of_lt (show k < rules.length by omega)
      obtain ⟨hw1, hw2, hw3⟩ := hwf p (List.mem_of_getElem? hp)
      refine St.skip ?_
      refine St.then_normal ?_
      refine St.seq ?_
      refine St.block ?_
      refine St.seq ?_
      refine St.rg ?_
      refine St.ev _ (Ev.move (Opd.mk rfl)) rfl ?_
      refine St.ev _ (Ev.move (Opd.mk rfl)) rfl ?_
      refine St.ev _ (Ev.idxaddr  (Opd.mk rfl) (Opd.mk rfl) Try.underlying22 sz34 rfl (by omega)) rfl ?_
      refine St.ev _ (Ev.ldA (Opd.mk rfl) (by first | assumption | exact some_getD default (by omega)) Try.underlying34 trivial sz34 Cel.eq) rfl ?_
      refine St.alloc zc34 rfl (fun b4 => ?_)
      refine St.storeA (Opd.mk rfl) (Opd.mk rfl) sz34 (by first | simp only [List.length_cons, List.length_nil] | rfl) rfl ?_
      refine St.nil ?_
      refine St.then_normal ?_
      refine St.seq ?_
      refine St.seq ?_
      refine St.rg ?_
      refine St.ev _ (Ev.fldb0 (Opd.mk rfl) fo34_0) rfl ?_
      refine St.ev _ (Ev.ldb (Opd.mk rfl) Try.underlying3 trivial (by rfl)) rfl ?_
      refine St.ev _ (Ev.lss (Opd.mk rfl) (Opd.mk rfl)) rfl ?_
      refine St.ev _ (Ev.move (Opd.mk rfl)) rfl ?_
      refine St.gf _ rfl rfl (fun hg => Ev.fldb0 (Opd.mk rfl) fo34_0) rfl ?_
      refine St.gf _ rfl rfl (fun hg => Ev.ldb (Opd.gv rfl hg) Try.underlying3 trivial (by rfl)) rfl ?_
      refine St.gf _ rfl rfl (fun hg => Ev.gtr (Opd.gv rfl hg) (Opd.mk rfl)) rfl ?_
      refine St.ev _ (Ev.or (Opd.mk rfl) (fun hp => Opd.gv rfl hp)) rfl ?_
      refine St.nil ?_
      refine St.then_normal ?_
      refine St.cond _ rfl (fun h26 => ?_) (fun h26 => ?_)
      · skip
        try simp only [Bool.and_true, Bool.true_and, decide_eq_true_eq, decide_eq_false_iff_not, Bool.and_eq_true, Bool.or_eq_true, Bool.and_eq_false_iff, Bool.or_eq_false_iff, Bool.not_eq_true', Bool.not_eq_false', beq_iff_eq, beq_eq_false_iff_ne, Int.not_lt, Int.not_le] at h26
        refine St.seq ?_
        refine St.rg ?_
        refine St.ev _ (Ev.move (Opd.mk rfl)) rfl ?_
        refine St.ev _ (Ev.build (ps := [(0, (Operand.const (Value.int IntKind.i64 4))), (1, (Operand.tmp 27))]) (Opds.cons (Opd.mk rfl) (Opds.cons (Opd.mk rfl) Opds.nil)) (fun w => bld27_0_1 rfl rfl w)) rfl ?_
        refine St.storeA (Opd.mk rfl) (Opd.mk rfl) sz27 (by first | simp only [List.length_cons, List.length_nil] | rfl) rfl ?_
        refine St.nil ?_
        refine St.then_normal ?_
        refine St.rett ?_
        refine St.then_ret ?_
        refine St.in_ret ?_
        refine St.then_ret ?_
        refine St.then_ret ?_
        refine St.in_ret ?_
        refine St.then_ret ?_
        refine St.rets [_] [] Try.results16 ⟨⟨_, _, _, _, rfl, InB.mem, .inl ⟨⟨_, Try.underlying27⟩, sz27, rfl⟩⟩, trivial⟩ ?_ (fun _ hw => hw.sub)
        exact fe (vf_bad hv hp (badRule_kind (by omega)) (by decide))
      · skip
        try simp only [Bool.and_true, Bool.true_and, decide_eq_true_eq, decide_eq_false_iff_not, Bool.and_eq_true, Bool.or_eq_true, Bool.and_eq_false_iff, Bool.or_eq_false_iff, Bool.not_eq_true', Bool.not_eq_false', beq_iff_eq, beq_eq_false_iff_ne, Int.not_lt, Int.not_le] at h26
        refine St.skip ?_
        refine St.then_normal ?_
        refine St.seq ?_
        refine St.seq ?_
        refine St.rg ?_
        refine St.ev _ (Ev.fldb0 (Opd.mk rfl) fo34_1) rfl ?_
        refine St.ev _ (Ev.ldb (Opd.mk rfl) Try.underlying9 trivial (by rfl)) rfl ?_
        refine St.ev _ (Ev.call (IsName_spec p.a (by omega)) cb27 (Opds.cons (Opd.mk rfl) Opds.nil)) rfl ?_
        refine St.ev _ (Ev.not (Opd.mk rfl)) rfl ?_
        refine St.ev _ (Ev.move (Opd.mk rfl)) rfl ?_
        refine St.gf _ rfl rfl (fun hg => Ev.fldb0 (Opd.mk rfl) fo34_0) rfl ?_
        refine St.gf _ rfl rfl (fun hg => Ev.ldb (Opd.gv rfl hg) Try.underlying3 trivial (by rfl)) rfl ?_
        refine St.gf _ rfl rfl (fun hg => Ev.leq (Opd.gv rfl hg) (Opd.mk rfl)) rfl ?_
        refine St.gf _ rfl rfl (fun hg => Ev.move (Opd.gv rfl hg)) rfl ?_
        refine St.gct _ rfl rfl (fun hg => Ev.fldb0 (Opd.mk rfl) fo34_2) rfl ?_
        refine St.gct _ rfl rfl (fun hg => Ev.ldb (Opd.gv rfl hg) Try.underlying9 trivial (by rfl)) rfl ?_
        refine St.gct _ rfl rfl (fun hg => Ev.call (IsName_spec p.b (by omega)) cb27 (Opds.cons (Opd.gv rfl hg) Opds.nil)) rfl ?_
        refine St.gct _ rfl rfl (fun hg => Ev.not (Opd.gv rfl hg)) rfl ?_
        refine St.gf _ rfl rfl (fun hg => Ev.and (Opd.gv rfl hg) (fun hp => Opd.gv rfl (and_i hg hp))) rfl ?_
        refine St.ev _ (Ev.or (Opd.mk rfl) (fun hp => Opd.gv rfl hp)) rfl ?_
        refine St.nil ?_
        refine St.then_normal ?_
        refine St.cond _ rfl (fun h43 => ?_) (fun h43 => ?_)
        · skip
          try simp only [Bool.and_true, Bool.true_and, decide_eq_true_eq, decide_eq_false_iff_not, Bool.and_eq_true, Bool.or_eq_true, Bool.and_eq_false_iff, Bool.or_eq_false_iff, Bool.not_eq_true', Bool.not_eq_false', beq_iff_eq, beq_eq_false_iff_ne, Int.not_lt, Int.not_le] at h43
          refine St.seq ?_
          refine St.rg ?_
          refine St.ev _ (Ev.move (Opd.mk rfl)) rfl ?_
          refine St.ev _ (Ev.build (ps := [(0, (Operand.const (Value.int IntKind.i64 10))), (1, (Operand.tmp 44))]) (Opds.cons (Opd.mk rfl) (Opds.cons (Opd.mk rfl) Opds.nil)) (fun w => bld27_0_1 rfl rfl w)) rfl ?_
          refine St.storeA (Opd.mk rfl) (Opd.mk rfl) sz27 (by first | simp only [List.length_cons, List.length_nil] | rfl) rfl ?_
          refine St.nil ?_
          refine St.then_normal ?_
          refine St.rett ?_
          refine St.then_ret ?_
          refine St.in_ret ?_
          refine St.then_ret ?_
          refine St.then_ret ?_
          refine St.in_ret ?_
          refine St.then_ret ?_
          refine St.rets [_] [] Try.results16 ⟨⟨_, _, _, _, rfl, InB.mem, .inl ⟨⟨_, Try.underlying27⟩, sz27, rfl⟩⟩, trivial⟩ ?_ (fun _ hw => hw.sub)
          exact fe (vf_bad hv hp (badRule_name (by omega) (by rcases h43 with q | ⟨q1, q2⟩; left; exact q; right; exact ⟨by omega, q2⟩)) (by decide))
        · skip
          try simp only [Bool.and_true, Bool.true_and, decide_eq_true_eq, decide_eq_false_iff_not, Bool.and_eq_true, Bool.or_eq_true, Bool.and_eq_false_iff, Bool.or_eq_false_iff, Bool.not_eq_true', Bool.not_eq_false', beq_iff_eq, beq_eq_false_iff_ne, Int.not_lt, Int.not_le] at h43
          refine St.skip ?_
          refine St.then_normal ?_
          refine St.seq ?_
          refine St.rg ?_
          refine St.ev _ (Ev.fldb0 (Opd.mk rfl) fo34_0) rfl ?_
          refine St.ev _ (Ev.ldb (Opd.mk rfl) Try.underlying3 trivial (by rfl)) rfl ?_
          refine St.ev _ (Ev.gtr (Opd.mk rfl) (Opd.mk rfl)) rfl ?_
          refine St.ev _ (Ev.move (Opd.mk rfl)) rfl ?_
          refine St.gt _ rfl rfl (fun hg => Ev.fldb0 (Opd.mk rfl) fo34_2) rfl ?_
          refine St.gt _ rfl rfl (fun hg => Ev.ldb (Opd.gv rfl hg) Try.underlying9 trivial (by rfl)) rfl ?_
          refine St.gt _ rfl rfl (fun hg => Ev.strne (Opd.gv rfl hg) (Opd.mk rfl)) rfl ?_
          refine St.ev _ (Ev.and (Opd.mk rfl) (fun hp => Opd.gv rfl hp)) rfl ?_
          refine St.nil ?_
          refine St.then_normal ?_
          refine St.cond _ rfl (fun h53 => ?_) (fun h53 => ?_)
          · skip
            try simp only [Bool.and_true, Bool.true_and, decide_eq_true_eq, decide_eq_false_iff_not, Bool.and_eq_true, Bool.or_eq_true, Bool.and_eq_false_iff, Bool.or_eq_false_iff, Bool.not_eq_true', Bool.not_eq_false', beq_iff_eq, beq_eq_false_iff_ne, Int.not_lt, Int.not_le] at h53
            refine St.seq ?_
            refine St.rg ?_
            refine St.ev _ (Ev.move (Opd.mk rfl)) rfl ?_
            refine St.ev _ (Ev.build (ps := [(0, (Operand.const (Value.int IntKind.i64 5))), (1, (Operand.tmp 54))]) (Opds.cons (Opd.mk rfl) (Opds.cons (Opd.mk rfl) Opds.nil)) (fun w => bld27_0_1 rfl rfl w)) rfl ?_
            refine St.storeA (Opd.mk rfl) (Opd.mk rfl) sz27 (by first | simp only [List.length_cons, List.length_nil] | rfl) rfl ?_
            refine St.nil ?_
            refine St.then_normal ?_
            refine St.rett ?_
            refine St.in_ret ?_
            refine St.then_ret ?_
            refine St.then_ret ?_
            refine St.in_ret ?_
            refine St.then_ret ?_
            refine St.rets [_] [] Try.results16 ⟨⟨_, _, _, _, rfl, InB.mem, .inl ⟨⟨_, Try.underlying27⟩, sz27, rfl⟩⟩, trivial⟩ ?_ (fun _ hw => hw.sub)
            exact fe (vf_bad hv hp (by rw [badRule_rest (by omega) (by simpa using h43.1) (fun h => by rcases h43.2 with h4 | h4; omega; exact h4), if_pos (by constructor; omega; exact h53.2)]) (by decide))
          · skip
            try simp only [Bool.and_true, Bool.true_and, decide_eq_true_eq, decide_eq_false_iff_not, Bool.and_eq_true, Bool.or_eq_true, Bool.and_eq_false_iff, Bool.or_eq_false_iff, Bool.not_eq_true', Bool.not_eq_false', beq_iff_eq, beq_eq_false_iff_ne, Int.not_lt, Int.not_le] at h53
            refine St.skip ?_
            refine St.in_normal ?_
            refine St.then_normal ?_
            refine St.rg ?_
            refine St.ev _ (Ev.move (Opd.mk rfl)) rfl ?_
            refine St.ev _ (Ev.add (Opd.mk rfl) (Opd.mk rfl) (by omega)) rfl ?_
            refine St.ev _ (Ev.assign (Opd.mk rfl)) rfl ?_
            refine St.nil ?_
            refine St.then_normal ?_
            refine St.againS (k + 1) ⟨by omega, vf_good hv hp (by rw [badRule_rest (by omega) (by simpa using h43.1) (fun h => by rcases h43.2 with h4 | h4; omega; exact h4), if_neg (by rintro ⟨q1, q2⟩; rcases h53 with q | q; omega; exact q2 q)])⟩ (by first | omega | (dsimp only; omega)) (by repeat (first | exact Sub.nil | refine Sub.cons (by first | rfl | exact congrArg (fun z => some (iv z)) (by first | omega | (dsimp only; omega)) | exact congrArg (fun z => some (Value.bool z)) (by first | assumption | exact Eq.symm (by assumption))) ?_)) (fun _ hw => hw.sub)
    · skip
      try simp only [Bool.and_true, Bool.true_and, decide_eq_true_eq, decide_eq_false_iff_not, Bool.and_eq_true, Bool.or_eq_true, Bool.and_eq_false_iff, Bool.or_eq_false_iff, Bool.not_eq_true', Bool.not_eq_false', beq_iff_eq, beq_eq_false_iff_ne, Int.not_lt, Int.not_le] at h12
      refine St.exit ?_
      refine St.then_exit ?_
      refine St.then_exit ?_
      refine St.in_hit ?_
      refine St.then_normal ?_
      refine St.seq ?_
      refine St.rg ?_
      refine St.ev _ (Ev.build (ps := []) (Opds.nil) (fun w => bld27_  w)) rfl ?_
      refine St.storeA (Opd.mk rfl) (Opd.mk rfl) sz27 (by first | simp only [List.length_cons, List.length_nil] | rfl) rfl ?_
      refine St.nil ?_
      refine St.then_normal ?_
      refine St.rett ?_
      refine St.rets [_] [] Try.results16 ⟨⟨_, _, _, _, rfl, InB.mem, .inl ⟨⟨_, Try.underlying27⟩, sz27, rfl⟩⟩, trivial⟩ ?_ (fun _ hw => hw.sub)
      exact fe (vf_end hv (by omega))

theorem check_spec (v0 v1 : Value) (rules : List Prec) (ks : List Str) : FnV Try.prog 24 #[v0, v1] [sl precR v0 rules, sl strR v1 ks] (fv (chk rules ks)) := by
  refine FnV.body2 (args := [v0, v1]) 32 Try.func24 rfl Try.ntmps24 rfl (fun c => ?_)
  refine St.seq ?_
  refine St.wf v1 (fun hwf hlen => ?_)
  refine St.rg ?_
  refine St.alloc zc27 rfl (fun b4 => ?_)
  refine St.nil ?_
  refine St.then_normal ?_
  refine St.seq ?_
  refine St.seq ?_
  refine St.rg ?_
  refine St.ev _ (Ev.move (Opd.mk rfl)) rfl ?_
  refine St.ev _ (Ev.call (Validate_spec v0 rules) cb15 (Opds.cons (Opd.mk rfl) Opds.nil)) rfl ?_
  refine St.alloc zc27 rfl (fun b5 => ?_)
  refine St.storeA (Opd.mk rfl) (Opd.mk rfl) sz27 (by first | simp only [List.length_cons, List.length_nil] | rfl) rfl ?_
  refine St.nil ?_
  refine St.then_normal ?_
  refine St.seq ?_
  refine St.rg ?_
  refine St.ev _ (Ev.fldb0 (Opd.mk rfl) fo27_0) rfl ?_
  refine St.ev _ (Ev.ldb (Opd.mk rfl) Try.underlying3 trivial (by rfl)) rfl ?_
  refine St.ev _ (Ev.neq (Opd.mk rfl) (Opd.mk rfl)) rfl ?_
  refine St.nil ?_
  refine St.then_normal ?_
  refine St.cond _ rfl (fun h12 => ?_) (fun h12 => ?_)
  · skip
    try simp only [Bool.and_true, Bool.true_and, decide_eq_true_eq, decide_eq_false_iff_not, Bool.and_eq_true, Bool.or_eq_true, Bool.and_eq_false_iff, Bool.or_eq_false_iff, Bool.not_eq_true', Bool.not_eq_false', beq_iff_eq, beq_eq_false_iff_ne, Int.not_lt, Int.not_le] at h12
    refine St.seq ?_
    refine St.rg ?_
    refine St.ev _ (Ev.ldbA (Opd.mk rfl) Try.underlying27 trivial (by exact sz27)) rfl ?_
    refine St.storeA (Opd.mk rfl) (Opd.mk rfl) sz27 (by first | simp only [List.length_cons, List.length_nil] | rfl) rfl ?_
    refine St.nil ?_
    refine St.then_normal ?_
    refine St.rett ?_
    refine St.then_ret ?_
    refine St.rets [_] [] Try.results24 ⟨⟨_, _, _, _, rfl, InB.mem, .inl ⟨⟨_, Try.underlying27⟩, sz27, rfl⟩⟩, trivial⟩ ?_ (fun _ hw => hw.sub)
    rw [chk_bad (by simpa using h12)]; rfl
  · skip
    try simp only [Bool.and_true, Bool.true_and, decide_eq_true_eq, decide_eq_false_iff_not, Bool.and_eq_true, Bool.or_eq_true, Bool.and_eq_false_iff, Bool.or_eq_false_iff, Bool.not_eq_true', Bool.not_eq_false', beq_iff_eq, beq_eq_false_iff_ne, Int.not_lt, Int.not_le] at h12
    refine St.skip ?_
    refine St.then_normal ?_
    refine St.seq ?_
    refine St.seq ?_
    refine St.rg ?_
    refine St.ev _ (Ev.move (Opd.mk rfl)) rfl ?_
    refine St.ev _ (Ev.lensl (Opd.mk rfl) Try.underlying23) rfl ?_
    refine St.ev _ (Ev.gtr (Opd.mk rfl) (Opd.mk rfl)) rfl ?_
    refine St.nil ?_
    refine St.then_normal ?_
    refine St.cond _ rfl (fun h16 => ?_) (fun h16 => ?_)
    · skip
      try simp only [Bool.and_true, Bool.true_and, decide_eq_true_eq, decide_eq_false_iff_not, Bool.and_eq_true, Bool.or_eq_true, Bool.and_eq_false_iff, Bool.or_eq_false_iff, Bool.not_eq_true', Bool.not_eq_false', beq_iff_eq, beq_eq_false_iff_ne, Int.not_lt, Int.not_le] at h16
      refine St.seq ?_
      refine St.rg ?_
      refine St.ev _ (Ev.build (ps := [(0, (Operand.const (Value.int IntKind.i64 2))), (1, (Operand.const (Value.int IntKind.i64 (-2))))]) (Opds.cons (Opd.mk rfl) (Opds.cons (Opd.mk rfl) Opds.nil)) (fun w => bld27_0_1 rfl rfl w)) rfl ?_
      refine St.storeA (Opd.mk rfl) (Opd.mk rfl) sz27 (by first | simp only [List.length_cons, List.length_nil] | rfl) rfl ?_
      refine St.nil ?_
      refine St.then_normal ?_
      refine St.rett ?_
      refine St.then_ret ?_
      refine St.rets [_] [] Try.results24 ⟨⟨_, _, _, _, rfl, InB.mem, .inl ⟨⟨_, Try.underlying27⟩, sz27, rfl⟩⟩, trivial⟩ ?_ (fun _ hw => hw.sub)
      exact fe (chk_many h12 (by omega))
    · skip
      try simp only [Bool.and_true, Bool.true_and, decide_eq_true_eq, decide_eq_false_iff_not, Bool.and_eq_true, Bool.or_eq_true, Bool.and_eq_false_iff, Bool.or_eq_false_iff, Bool.not_eq_true', Bool.not_eq_false', beq_iff_eq, beq_eq_false_iff_ne, Int.not_lt, Int.not_le] at h16
      refine St.skip ?_
      refine St.then_normal ?_
      refine St.seq ?_
      refine St.seq ?_
      refine St.rg ?_
      refine St.ev _ (Ev.move (Opd.mk rfl)) rfl ?_
      refine St.ev _ (Ev.lensl (Opd.mk rfl) Try.underlying23) rfl ?_
      refine St.ev _ (Ev.move (Opd.mk rfl)) rfl ?_
      refine St.nil ?_
      refine St.then_normal ?_
      refine St.block ?_
      refine St.loopS (ι := Nat) (fun k T => (20, iv k) :: T) (fun k => k ≤ ks.length ∧ chk rules ks = nfFrom k (ks.drop k)) (fun k => ks.length - k) 0 (Keep.cons 4 rfl (Keep.cons 18 rfl (Keep.cons 19 rfl Keep.nil))) ⟨Nat.zero_le _, chk_from h12 (by omega)⟩ (by repeat (first | exact Sub.nil | refine Sub.cons (by first | rfl | exact congrArg (fun z => some (iv z)) (by first | omega | (dsimp only; omega)) | exact congrArg (fun z => some (Value.bool z)) (by first | assumption | exact Eq.symm (by assumption))) ?_)) ?_
      intro k hphi
      obtain ⟨hk, hv⟩ := hphi
      refine St.seq ?_
      refine St.rg ?_
      refine St.ev _ (Ev.lss (Opd.mk rfl) (Opd.mk rfl)) rfl ?_
      refine St.nil ?_
      refine St.then_normal ?_
      refine St.seq ?_
      refine St.cond _ rfl (fun h21 => ?_) (fun h21 => ?_)
      · skip
        try simp only [Bool.and_true, Bool.true_and, decide_eq_true_eq, decide_eq_false_iff_not, Bool.and_eq_true, Bool.or_eq_true, Bool.and_eq_false_iff, Bool.or_eq_false_iff, Bool.not_eq_true', Bool.not_eq_false', beq_iff_eq, beq_eq_false_iff_ne, Int.not_lt, Int.not_le] at h21
        obtain ⟨p, hp⟩ := some_of_lt (show k < ks.length by omega)
        have hw := hwf p (List.mem_of_getElem? hp)
        have hw' : p.length ≤ 9223372036854775807 := hw
        refine St.skip ?_
        refine St.then_normal ?_
        refine St.seq ?_
        refine St.block ?_
        refine St.seq ?_
        refine St.rg ?_
        refine St.ev _ (Ev.move (Opd.mk rfl)) rfl ?_
        refine St.ev _ (Ev.idxaddr  (Opd.mk rfl) (Opd.mk rfl) Try.underlying23 sz9 rfl (by omega)) rfl ?_
        refine St.ev _ (Ev.ld1 (Opd.mk rfl) (by first | assumption | exact some_getD [] (by omega)) Try.underlying9 trivial rfl) rfl ?_
        refine St.ev _ (Ev.assign (Opd.mk rfl)) rfl ?_
        refine St.ev _ (Ev.assign (Opd.mk rfl)) rfl ?_
        refine St.nil ?_
        refine St.then_normal ?_
        refine St.seq ?_
        refine St.rg ?_
        refine St.ev _ (Ev.move (Opd.mk rfl)) rfl ?_
        refine St.ev _ (Ev.call (Name_spec p hw') cb32 (Opds.cons (Opd.mk rfl) Opds.nil)) rfl ?_
        refine St.ev _ (Ev.not (Opd.mk rfl)) rfl ?_
        refine St.nil ?_
        refine St.then_normal ?_
        refine St.cond _ rfl (fun h27 => ?_) (fun h27 => ?_)
        · skip
          try simp only [Bool.and_true, Bool.true_and, decide_eq_true_eq, decide_eq_false_iff_not, Bool.and_eq_true, Bool.or_eq_true, Bool.and_eq_false_iff, Bool.or_eq_false_iff, Bool.not_eq_true', Bool.not_eq_false', beq_iff_eq, beq_eq_false_iff_ne, Int.not_lt, Int.not_le] at h27
          refine St.seq ?_
          refine St.rg ?_
          refine St.ev _ (Ev.move (Opd.mk rfl)) rfl ?_
          refine St.ev _ (Ev.build (ps := [(0, (Operand.const (Value.int IntKind.i64 10))), (1, (Operand.tmp 28))]) (Opds.cons (Opd.mk rfl) (Opds.cons (Opd.mk rfl) Opds.nil)) (fun w => bld27_0_1 rfl rfl w)) rfl ?_
          refine St.storeA (Opd.mk rfl) (Opd.mk rfl) sz27 (by first | simp only [List.length_cons, List.length_nil] | rfl) rfl ?_
          refine St.nil ?_
          refine St.then_normal ?_
          refine St.rett ?_
          refine St.in_ret ?_
          refine St.then_ret ?_
          refine St.then_ret ?_
          refine St.in_ret ?_
          refine St.then_ret ?_
          refine St.rets [_] [] Try.results24 ⟨⟨_, _, _, _, rfl, InB.mem, .inl ⟨⟨_, Try.underlying27⟩, sz27, rfl⟩⟩, trivial⟩ ?_ (fun _ hw => hw.sub)
          exact fe (nf_bad hv hp (by simpa using h27))
        · skip
          try simp only [Bool.and_true, Bool.true_and, decide_eq_true_eq, decide_eq_false_iff_not, Bool.and_eq_true, Bool.or_eq_true, Bool.and_eq_false_iff, Bool.or_eq_false_iff, Bool.not_eq_true', Bool.not_eq_false', beq_iff_eq, beq_eq_false_iff_ne, Int.not_lt, Int.not_le] at h27
          refine St.skip ?_
          refine St.in_normal ?_
          refine St.then_normal ?_
          refine St.rg ?_
          refine St.ev _ (Ev.add (Opd.mk rfl) (Opd.mk rfl) (by omega)) rfl ?_
          refine St.ev _ (Ev.move (Opd.mk rfl)) rfl ?_
          refine St.nil ?_
          refine St.then_normal ?_
          refine St.againS (k + 1) ⟨by omega, nf_good hv hp (by simpa using h27)⟩ (by first | omega | (dsimp only; omega)) (by repeat (first | exact Sub.nil | refine Sub.cons (by first | rfl | exact congrArg (fun z => some (iv z)) (by first | omega | (dsimp only; omega)) | exact congrArg (fun z => some (Value.bool z)) (by first | assumption | exact Eq.symm (by assumption))) ?_)) (fun _ hw => hw.sub)
      · skip
        try simp only [Bool.and_true, Bool.true_and, decide_eq_true_eq, decide_eq_false_iff_not, Bool.and_eq_true, Bool.or_eq_true, Bool.and_eq_false_iff, Bool.or_eq_false_iff, Bool.not_eq_true', Bool.not_eq_false', beq_iff_eq, beq_eq_false_iff_ne, Int.not_lt, Int.not_le] at h21
        refine St.exit ?_
        refine St.then_exit ?_
        refine St.then_exit ?_
        refine St.in_hit ?_
        refine St.then_normal ?_
        refine St.seq ?_
        refine St.rg ?_
        refine St.ev _ (Ev.build (ps := []) (Opds.nil) (fun w => bld27_  w)) rfl ?_
        refine St.storeA (Opd.mk rfl) (Opd.mk rfl) sz27 (by first | simp only [List.length_cons, List.length_nil] | rfl) rfl ?_
        refine St.nil ?_
        refine St.then_normal ?_
        refine St.rett ?_
        refine St.rets [_] [] Try.results24 ⟨⟨_, _, _, _, rfl, InB.mem, .inl ⟨⟨_, Try.underlying27⟩, sz27, rfl⟩⟩, trivial⟩ ?_ (fun _ hw => hw.sub)
        exact fe (nf_end hv (by omega))

theorem OrderKinds_spec (v0 v1 : Value) (rules : List Prec) (ks : List Str) : FnV Try.prog 11 #[v0, v1] [sl precR v0 rules, sl strR v1 ks] (fv (chk rules ks)) := by
  refine FnV.body2 (args := [v0, v1]) 32 Try.func11 rfl Try.ntmps11 rfl (fun c => ?_)
  refine St.seq ?_
  refine St.wf v1 (fun hwf hlen => ?_)
  refine St.rg ?_
  refine St.alloc zc27 rfl (fun b4 => ?_)
  refine St.nil ?_
  refine St.then_normal ?_
  refine St.seq ?_
  refine St.rg ?_
  refine St.ev _ (Ev.move (Opd.mk rfl)) rfl ?_
  refine St.ev _ (Ev.call (OrderFault_spec v0 rules) cb16 (Opds.cons (Opd.mk rfl) Opds.nil)) rfl ?_
  refine St.alloc zc27 rfl (fun b5 => ?_)
  refine St.storeA (Opd.mk rfl) (Opd.mk rfl) sz27 (by first | simp only [List.length_cons, List.length_nil] | rfl) rfl ?_
  refine St.nil ?_
  refine St.then_normal ?_
  refine St.seq ?_
  refine St.seq ?_
  refine St.rg ?_
  refine St.ev _ (Ev.fldb0 (Opd.mk rfl) fo27_0) rfl ?_
  refine St.ev _ (Ev.ldb (Opd.mk rfl) Try.underlying3 trivial (by rfl)) rfl ?_
  refine St.ev _ (Ev.neq (Opd.mk rfl) (Opd.mk rfl)) rfl ?_
  refine St.nil ?_
  refine St.then_normal ?_
  refine St.cond _ rfl (fun h11 => ?_) (fun h11 => ?_)
  · skip
    try simp only [Bool.and_true, Bool.true_and, decide_eq_true_eq, decide_eq_false_iff_not, Bool.and_eq_true, Bool.or_eq_true, Bool.and_eq_false_iff, Bool.or_eq_false_iff, Bool.not_eq_true', Bool.not_eq_false', beq_iff_eq, beq_eq_false_iff_ne, Int.not_lt, Int.not_le] at h11
    refine St.seq ?_
    refine St.rg ?_
    refine St.ev _ (Ev.ldbA (Opd.mk rfl) Try.underlying27 trivial (by exact sz27)) rfl ?_
    refine St.storeA (Opd.mk rfl) (Opd.mk rfl) sz27 (by first | simp only [List.length_cons, List.length_nil] | rfl) rfl ?_
    refine St.nil ?_
    refine St.then_normal ?_
    refine St.rett ?_
    refine St.then_ret ?_
    refine St.rets [_] [] Try.results11 ⟨⟨_, _, _, _, rfl, InB.mem, .inl ⟨⟨_, Try.underlying27⟩, sz27, rfl⟩⟩, trivial⟩ ?_ (fun _ hw => hw.sub)
    rw [chk_bad (by simpa using h11)]; rfl
  · skip
    try simp only [Bool.and_true, Bool.true_and, decide_eq_true_eq, decide_eq_false_iff_not, Bool.and_eq_true, Bool.or_eq_true, Bool.and_eq_false_iff, Bool.or_eq_false_iff, Bool.not_eq_true', Bool.not_eq_false', beq_iff_eq, beq_eq_false_iff_ne, Int.not_lt, Int.not_le] at h11
    refine St.skip ?_
    refine St.then_normal ?_
    refine St.seq ?_
    refine St.seq ?_
    refine St.rg ?_
    refine St.ev _ (Ev.move (Opd.mk rfl)) rfl ?_
    refine St.ev _ (Ev.lensl (Opd.mk rfl) Try.underlying23) rfl ?_
    refine St.ev _ (Ev.gtr (Opd.mk rfl) (Opd.mk rfl)) rfl ?_
    refine St.nil ?_
    refine St.then_normal ?_
    refine St.cond _ rfl (fun h15 => ?_) (fun h15 => ?_)
    · skip
      try simp only [Bool.and_true, Bool.true_and, decide_eq_true_eq, decide_eq_false_iff_not, Bool.and_eq_true, Bool.or_eq_true, Bool.and_eq_false_iff, Bool.or_eq_false_iff, Bool.not_eq_true', Bool.not_eq_false', beq_iff_eq, beq_eq_false_iff_ne, Int.not_lt, Int.not_le] at h15
      refine St.seq ?_
      refine St.rg ?_
      refine St.ev _ (Ev.build (ps := [(0, (Operand.const (Value.int IntKind.i64 2))), (1, (Operand.const (Value.int IntKind.i64 (-2))))]) (Opds.cons (Opd.mk rfl) (Opds.cons (Opd.mk rfl) Opds.nil)) (fun w => bld27_0_1 rfl rfl w)) rfl ?_
      refine St.storeA (Opd.mk rfl) (Opd.mk rfl) sz27 (by first | simp only [List.length_cons, List.length_nil] | rfl) rfl ?_
      refine St.nil ?_
      refine St.then_normal ?_
      refine St.rett ?_
      refine St.then_ret ?_
      refine St.rets [_] [] Try.results11 ⟨⟨_, _, _, _, rfl, InB.mem, .inl ⟨⟨_, Try.underlying27⟩, sz27, rfl⟩⟩, trivial⟩ ?_ (fun _ hw => hw.sub)
      exact fe (chk_many h11 (by omega))
    · skip
      try simp only [Bool.and_true, Bool.true_and, decide_eq_true_eq, decide_eq_false_iff_not, Bool.and_eq_true, Bool.or_eq_true, Bool.and_eq_false_iff, Bool.or_eq_false_iff, Bool.not_eq_true', Bool.not_eq_false', beq_iff_eq, beq_eq_false_iff_ne, Int.not_lt, Int.not_le] at h15
      refine St.skip ?_
      refine St.then_normal ?_
      refine St.seq ?_
      refine St.seq ?_
      refine St.rg ?_
      refine St.ev _ (Ev.assign (Opd.mk rfl)) rfl ?_
      refine St.nil ?_
      refine St.then_normal ?_
      refine St.block ?_
      refine St.loopS (ι := Nat) (fun k T => (6, iv k) :: T) (fun k => k ≤ ks.length ∧ chk rules ks = nfFrom k (ks.drop k)) (fun k => ks.length - k) 0 (Keep.cons 1 rfl (Keep.cons 4 rfl Keep.nil)) ⟨Nat.zero_le _, chk_from h11 (by omega)⟩ (by repeat (first | exact Sub.nil | refine Sub.cons (by first | rfl | exact congrArg (fun z => some (iv z)) (by first | omega | (dsimp only; omega)) | exact congrArg (fun z => some (Value.bool z)) (by first | assumption | exact Eq.symm (by assumption))) ?_)) ?_
      intro k hphi
      obtain ⟨hk, hv⟩ := hphi
      refine St.seq ?_
      refine St.seq ?_
      refine St.rg ?_
      refine St.ev _ (Ev.move (Opd.mk rfl)) rfl ?_
      refine St.ev _ (Ev.move (Opd.mk rfl)) rfl ?_
      refine St.ev _ (Ev.lensl (Opd.mk rfl) Try.underlying23) rfl ?_
      refine St.ev _ (Ev.lss (Opd.mk rfl) (Opd.mk rfl)) rfl ?_
      refine St.nil ?_
      refine St.then_normal ?_
      refine St.cond _ rfl (fun h20 => ?_) (fun h20 => ?_)
      · skip
        try simp only [Bool.and_true, Bool.true_and, decide_eq_true_eq, decide_eq_false_iff_not, Bool.and_eq_true, Bool.or_eq_true, Bool.and_eq_false_iff, Bool.or_eq_false_iff, Bool.not_eq_true', Bool.not_eq_false', beq_iff_eq, beq_eq_false_iff_ne, Int.not_lt, Int.not_le] at h20
        obtain ⟨p, hp⟩ := some_of_lt (show k < ks.length by omega)
        have hw := hwf p (List.mem_of_getElem? hp)
        have hw' : p.length ≤ 9223372036854775807 := hw
        refine St.skip ?_
        refine St.then_normal ?_
        refine St.seq ?_
        refine St.block ?_
        refine St.seq ?_
        refine St.rg ?_
        refine St.ev _ (Ev.move (Opd.mk rfl)) rfl ?_
        refine St.ev _ (Ev.move (Opd.mk rfl)) rfl ?_
        refine St.ev _ (Ev.idxaddr  (Opd.mk rfl) (Opd.mk rfl) Try.underlying23 sz9 rfl (by omega)) rfl ?_
        refine St.ev _ (Ev.ld1 (Opd.mk rfl) (by first | assumption | exact some_getD [] (by omega)) Try.underlying9 trivial rfl) rfl ?_
        refine St.ev _ (Ev.call (IsName_spec p hw') cb27 (Opds.cons (Opd.mk rfl) Opds.nil)) rfl ?_
        refine St.ev _ (Ev.not (Opd.mk rfl)) rfl ?_
        refine St.nil ?_
        refine St.then_normal ?_
        refine St.cond _ rfl (fun h28 => ?_) (fun h28 => ?_)
        · skip
          try simp only [Bool.and_true, Bool.true_and, decide_eq_true_eq, decide_eq_false_iff_not, Bool.and_eq_true, Bool.or_eq_true, Bool.and_eq_false_iff, Bool.or_eq_false_iff, Bool.not_eq_true', Bool.not_eq_false', beq_iff_eq, beq_eq_false_iff_ne, Int.not_lt, Int.not_le] at h28
          refine St.seq ?_
          refine St.rg ?_
          refine St.ev _ (Ev.move (Opd.mk rfl)) rfl ?_
          refine St.ev _ (Ev.build (ps := [(0, (Operand.const (Value.int IntKind.i64 10))), (1, (Operand.tmp 29))]) (Opds.cons (Opd.mk rfl) (Opds.cons (Opd.mk rfl) Opds.nil)) (fun w => bld27_0_1 rfl rfl w)) rfl ?_
          refine St.storeA (Opd.mk rfl) (Opd.mk rfl) sz27 (by first | simp only [List.length_cons, List.length_nil] | rfl) rfl ?_
          refine St.nil ?_
          refine St.then_normal ?_
          refine St.rett ?_
          refine St.in_ret ?_
          refine St.then_ret ?_
          refine St.then_ret ?_
          refine St.in_ret ?_
          refine St.then_ret ?_
          refine St.rets [_] [] Try.results11 ⟨⟨_, _, _, _, rfl, InB.mem, .inl ⟨⟨_, Try.underlying27⟩, sz27, rfl⟩⟩, trivial⟩ ?_ (fun _ hw => hw.sub)
          exact fe (nf_bad hv hp (by simpa using h28))
        · skip
          try simp only [Bool.and_true, Bool.true_and, decide_eq_true_eq, decide_eq_false_iff_not, Bool.and_eq_true, Bool.or_eq_true, Bool.and_eq_false_iff, Bool.or_eq_false_iff, Bool.not_eq_true', Bool.not_eq_false', beq_iff_eq, beq_eq_false_iff_ne, Int.not_lt, Int.not_le] at h28
          refine St.skip ?_
          refine St.in_normal ?_
          refine St.then_normal ?_
          refine St.rg ?_
          refine St.ev _ (Ev.move (Opd.mk rfl)) rfl ?_
          refine St.ev _ (Ev.add (Opd.mk rfl) (Opd.mk rfl) (by omega)) rfl ?_
          refine St.ev _ (Ev.assign (Opd.mk rfl)) rfl ?_
          refine St.nil ?_
          refine St.then_normal ?_
          refine St.againS (k + 1) ⟨by omega, nf_good hv hp (by simpa using h28)⟩ (by first | omega | (dsimp only; omega)) (by repeat (first | exact Sub.nil | refine Sub.cons (by first | rfl | exact congrArg (fun z => some (iv z)) (by first | omega | (dsimp only; omega)) | exact congrArg (fun z => some (Value.bool z)) (by first | assumption | exact Eq.symm (by assumption))) ?_)) (fun _ hw => hw.sub)
      · skip
        try simp only [Bool.and_true, Bool.true_and, decide_eq_true_eq, decide_eq_false_iff_not, Bool.and_eq_true, Bool.or_eq_true, Bool.and_eq_false_iff, Bool.or_eq_false_iff, Bool.not_eq_true', Bool.not_eq_false', beq_iff_eq, beq_eq_false_iff_ne, Int.not_lt, Int.not_le] at h20
        refine St.exit ?_
        refine St.then_exit ?_
        refine St.then_exit ?_
        refine St.in_hit ?_
        refine St.then_normal ?_
        refine St.seq ?_
        refine St.rg ?_
        refine St.ev _ (Ev.build (ps := []) (Opds.nil) (fun w => bld27_  w)) rfl ?_
        refine St.storeA (Opd.mk rfl) (Opd.mk rfl) sz27 (by first | simp only [List.length_cons, List.length_nil] | rfl) rfl ?_
        refine St.nil ?_
        refine St.then_normal ?_
        refine St.rett ?_
        refine St.rets [_] [] Try.results11 ⟨⟨_, _, _, _, rfl, InB.mem, .inl ⟨⟨_, Try.underlying27⟩, sz27, rfl⟩⟩, trivial⟩ ?_ (fun _ hw => hw.sub)
        exact fe (nf_end hv (by omega))

end Go.Proofs.Ytblnbjlcpleaaaa
