/-
  The walks of the library: the length of a number, the division of two digits by one.
  Conditions: the high digit is below the divisor.
-/
import Derived.Test.YteahhholjojfbaaDoorW1
import Derived.Test.YteahhholjojfbaaDoorFracD
set_option maxRecDepth 20000
set_option linter.unusedSimpArgs false
set_option linter.unusedVariables false
namespace Go.Proofs.YteahhholjojfbaaDoor
open Go Go.J

set_option maxRecDepth 100000 in
theorem Len64_spec (x : Nat) (hx : x < 18446744073709551616) : FnV Tryd.prog 56 #[uv x] [] (iv (len64 x)) := by
  refine FnV.body0 (args := [uv x]) 25 Tryd.func56 rfl Tryd.ntmps56 rfl (fun c => ?_)
  refine St.seq ?_
  have hl := len64_le hx
  refine St.rg ?_
  refine St.ev _ (Ev.assign (Opd.mk rfl)) rfl ?_
  refine St.nil ?_
  refine St.then_normal ?_
  refine St.seq ?_
  refine St.seq ?_
  refine St.rg ?_
  refine St.ev _ (Ev.move (Opd.mk rfl)) rfl ?_
  refine St.ev _ (Ev.geq (Opd.mk rfl) (Opd.mk rfl)) rfl ?_
  refine St.nil ?_
  refine St.then_normal ?_
  refine St.cond _ rfl (fun h4 => ?_) (fun h4 => ?_)
  · skip
    try simp only [Bool.and_true, Bool.true_and, decide_eq_true_eq, decide_eq_false_iff_not, Bool.and_eq_true, Bool.or_eq_true, Bool.and_eq_false_iff, Bool.or_eq_false_iff, Bool.not_eq_true', Bool.not_eq_false', beq_iff_eq, beq_eq_false_iff_ne, Int.not_lt, Int.not_le] at h4
    have g4 := len64_32 h4
    refine St.seq ?_
    refine St.rg ?_
    refine St.ev _ (Ev.move (Opd.mk rfl)) rfl ?_
    refine St.ev _ (Ev.shrU 32 4294967296 (by decide) (Opd.mk rfl) (Opd.mk rfl) (by decide)) rfl ?_
    refine St.ev _ (Ev.assign (Opd.mk rfl)) rfl ?_
    refine St.nil ?_
    refine St.then_normal ?_
    refine St.rg ?_
    refine St.ev _ (Ev.assign (Opd.mk rfl)) rfl ?_
    refine St.nil ?_
    refine St.then_normal ?_
    refine St.seq ?_
    refine St.seq ?_
    refine St.rg ?_
    refine St.ev _ (Ev.move (Opd.mk rfl)) rfl ?_
    refine St.ev _ (Ev.geq (Opd.mk rfl) (Opd.mk rfl)) rfl ?_
    refine St.nil ?_
    refine St.then_normal ?_
    refine St.cond _ rfl (fun h8 => ?_) (fun h8 => ?_)
    · skip
      try simp only [Bool.and_true, Bool.true_and, decide_eq_true_eq, decide_eq_false_iff_not, Bool.and_eq_true, Bool.or_eq_true, Bool.and_eq_false_iff, Bool.or_eq_false_iff, Bool.not_eq_true', Bool.not_eq_false', beq_iff_eq, beq_eq_false_iff_ne, Int.not_lt, Int.not_le] at h8
      have g8 := len64_16 h8
      refine St.seq ?_
      refine St.rg ?_
      refine St.ev _ (Ev.move (Opd.mk rfl)) rfl ?_
      refine St.ev _ (Ev.shrU 16 65536 (by decide) (Opd.mk rfl) (Opd.mk rfl) (by decide)) rfl ?_
      refine St.ev _ (Ev.assign (Opd.mk rfl)) rfl ?_
      refine St.nil ?_
      refine St.then_normal ?_
      refine St.rg ?_
      refine St.ev _ (Ev.move (Opd.mk rfl)) rfl ?_
      refine St.ev _ (Ev.add (Opd.mk rfl) (Opd.mk rfl) (by omega)) rfl ?_
      refine St.ev _ (Ev.assign (Opd.mk rfl)) rfl ?_
      refine St.nil ?_
      refine St.then_normal ?_
      refine St.seq ?_
      refine St.seq ?_
      refine St.rg ?_
      refine St.ev _ (Ev.move (Opd.mk rfl)) rfl ?_
      refine St.ev _ (Ev.geq (Opd.mk rfl) (Opd.mk rfl)) rfl ?_
      refine St.nil ?_
      refine St.then_normal ?_
      refine St.cond _ rfl (fun h14 => ?_) (fun h14 => ?_)
      · skip
        try simp only [Bool.and_true, Bool.true_and, decide_eq_true_eq, decide_eq_false_iff_not, Bool.and_eq_true, Bool.or_eq_true, Bool.and_eq_false_iff, Bool.or_eq_false_iff, Bool.not_eq_true', Bool.not_eq_false', beq_iff_eq, beq_eq_false_iff_ne, Int.not_lt, Int.not_le] at h14
        have g14 := len64_8 h14
        refine St.seq ?_
        refine St.rg ?_
        refine St.ev _ (Ev.move (Opd.mk rfl)) rfl ?_
        refine St.ev _ (Ev.shrU 8 256 (by decide) (Opd.mk rfl) (Opd.mk rfl) (by decide)) rfl ?_
        refine St.ev _ (Ev.assign (Opd.mk rfl)) rfl ?_
        refine St.nil ?_
        refine St.then_normal ?_
        refine St.rg ?_
        refine St.ev _ (Ev.move (Opd.mk rfl)) rfl ?_
        refine St.ev _ (Ev.add (Opd.mk rfl) (Opd.mk rfl) (by omega)) rfl ?_
        refine St.ev _ (Ev.assign (Opd.mk rfl)) rfl ?_
        refine St.nil ?_
        refine St.then_normal ?_
        refine St.seq ?_
        refine St.rg ?_
        refine St.ev _ (Ev.move (Opd.mk rfl)) rfl ?_
        refine St.ev _ (Ev.move (Opd.mk rfl)) rfl ?_
        refine St.ev _ (Ev.convK (Opd.mk rfl) (by rw [Tryd.underlying39]; rfl) Tryd.underlying5 (wrap8 (by omega))) rfl ?_
        refine St.ev _ (Ev.idxstrK (Opd.mk rfl) (Opd.mk rfl) Tryd.underlying9 rfl (by show _ < 256; omega)) rfl ?_
        refine St.slot 22 _ rfl (tab_eq (by omega)) ?_
        refine St.ev _ (Ev.convUI (Opd.mk rfl) (by rw [Tryd.underlying5]; rfl) Tryd.underlying3 (by omega)) rfl ?_
        refine St.ev _ (Ev.add (Opd.mk rfl) (Opd.mk rfl) (by omega)) rfl ?_
        refine St.ev _ (Ev.assign (Opd.mk rfl)) rfl ?_
        refine St.nil ?_
        refine St.then_normal ?_
        refine St.rett ?_
        refine St.rets [_] [] Tryd.results56 ⟨rfl, trivial⟩ ?_ (fun _ hw => hw.sub)
        exact ie (by omega)
      · skip
        try simp only [Bool.and_true, Bool.true_and, decide_eq_true_eq, decide_eq_false_iff_not, Bool.and_eq_true, Bool.or_eq_true, Bool.and_eq_false_iff, Bool.or_eq_false_iff, Bool.not_eq_true', Bool.not_eq_false', beq_iff_eq, beq_eq_false_iff_ne, Int.not_lt, Int.not_le] at h14
        refine St.skip ?_
        refine St.then_normal ?_
        refine St.seq ?_
        refine St.rg ?_
        refine St.ev _ (Ev.move (Opd.mk rfl)) rfl ?_
        refine St.ev _ (Ev.move (Opd.mk rfl)) rfl ?_
        refine St.ev _ (Ev.convK (Opd.mk rfl) (by rw [Tryd.underlying39]; rfl) Tryd.underlying5 (wrap8 (by omega))) rfl ?_
        refine St.ev _ (Ev.idxstrK (Opd.mk rfl) (Opd.mk rfl) Tryd.underlying9 rfl (by show _ < 256; omega)) rfl ?_
        refine St.slot 22 _ rfl (tab_eq (by omega)) ?_
        refine St.ev _ (Ev.convUI (Opd.mk rfl) (by rw [Tryd.underlying5]; rfl) Tryd.underlying3 (by omega)) rfl ?_
        refine St.ev _ (Ev.add (Opd.mk rfl) (Opd.mk rfl) (by omega)) rfl ?_
        refine St.ev _ (Ev.assign (Opd.mk rfl)) rfl ?_
        refine St.nil ?_
        refine St.then_normal ?_
        refine St.rett ?_
        refine St.rets [_] [] Tryd.results56 ⟨rfl, trivial⟩ ?_ (fun _ hw => hw.sub)
        exact ie (by omega)
    · skip
      try simp only [Bool.and_true, Bool.true_and, decide_eq_true_eq, decide_eq_false_iff_not, Bool.and_eq_true, Bool.or_eq_true, Bool.and_eq_false_iff, Bool.or_eq_false_iff, Bool.not_eq_true', Bool.not_eq_false', beq_iff_eq, beq_eq_false_iff_ne, Int.not_lt, Int.not_le] at h8
      refine St.skip ?_
      refine St.then_normal ?_
      refine St.seq ?_
      refine St.seq ?_
      refine St.rg ?_
      refine St.ev _ (Ev.move (Opd.mk rfl)) rfl ?_
      refine St.ev _ (Ev.geq (Opd.mk rfl) (Opd.mk rfl)) rfl ?_
      refine St.nil ?_
      refine St.then_normal ?_
      refine St.cond _ rfl (fun h14 => ?_) (fun h14 => ?_)
      · skip
        try simp only [Bool.and_true, Bool.true_and, decide_eq_true_eq, decide_eq_false_iff_not, Bool.and_eq_true, Bool.or_eq_true, Bool.and_eq_false_iff, Bool.or_eq_false_iff, Bool.not_eq_true', Bool.not_eq_false', beq_iff_eq, beq_eq_false_iff_ne, Int.not_lt, Int.not_le] at h14
        have g14 := len64_8 h14
        refine St.seq ?_
        refine St.rg ?_
        refine St.ev _ (Ev.move (Opd.mk rfl)) rfl ?_
        refine St.ev _ (Ev.shrU 8 256 (by decide) (Opd.mk rfl) (Opd.mk rfl) (by decide)) rfl ?_
        refine St.ev _ (Ev.assign (Opd.mk rfl)) rfl ?_
        refine St.nil ?_
        refine St.then_normal ?_
        refine St.rg ?_
        refine St.ev _ (Ev.move (Opd.mk rfl)) rfl ?_
        refine St.ev _ (Ev.add (Opd.mk rfl) (Opd.mk rfl) (by omega)) rfl ?_
        refine St.ev _ (Ev.assign (Opd.mk rfl)) rfl ?_
        refine St.nil ?_
        refine St.then_normal ?_
        refine St.seq ?_
        refine St.rg ?_
        refine St.ev _ (Ev.move (Opd.mk rfl)) rfl ?_
        refine St.ev _ (Ev.move (Opd.mk rfl)) rfl ?_
        refine St.ev _ (Ev.convK (Opd.mk rfl) (by rw [Tryd.underlying39]; rfl) Tryd.underlying5 (wrap8 (by omega))) rfl ?_
        refine St.ev _ (Ev.idxstrK (Opd.mk rfl) (Opd.mk rfl) Tryd.underlying9 rfl (by show _ < 256; omega)) rfl ?_
        refine St.slot 22 _ rfl (tab_eq (by omega)) ?_
        refine St.ev _ (Ev.convUI (Opd.mk rfl) (by rw [Tryd.underlying5]; rfl) Tryd.underlying3 (by omega)) rfl ?_
        refine St.ev _ (Ev.add (Opd.mk rfl) (Opd.mk rfl) (by omega)) rfl ?_
        refine St.ev _ (Ev.assign (Opd.mk rfl)) rfl ?_
        refine St.nil ?_
        refine St.then_normal ?_
        refine St.rett ?_
        refine St.rets [_] [] Tryd.results56 ⟨rfl, trivial⟩ ?_ (fun _ hw => hw.sub)
        exact ie (by omega)
      · skip
        try simp only [Bool.and_true, Bool.true_and, decide_eq_true_eq, decide_eq_false_iff_not, Bool.and_eq_true, Bool.or_eq_true, Bool.and_eq_false_iff, Bool.or_eq_false_iff, Bool.not_eq_true', Bool.not_eq_false', beq_iff_eq, beq_eq_false_iff_ne, Int.not_lt, Int.not_le] at h14
        refine St.skip ?_
        refine St.then_normal ?_
        refine St.seq ?_
        refine St.rg ?_
        refine St.ev _ (Ev.move (Opd.mk rfl)) rfl ?_
        refine St.ev _ (Ev.move (Opd.mk rfl)) rfl ?_
        refine St.ev _ (Ev.convK (Opd.mk rfl) (by rw [Tryd.underlying39]; rfl) Tryd.underlying5 (wrap8 (by omega))) rfl ?_
        refine St.ev _ (Ev.idxstrK (Opd.mk rfl) (Opd.mk rfl) Tryd.underlying9 rfl (by show _ < 256; omega)) rfl ?_
        refine St.slot 22 _ rfl (tab_eq (by omega)) ?_
        refine St.ev _ (Ev.convUI (Opd.mk rfl) (by rw [Tryd.underlying5]; rfl) Tryd.underlying3 (by omega)) rfl ?_
        refine St.ev _ (Ev.add (Opd.mk rfl) (Opd.mk rfl) (by omega)) rfl ?_
        refine St.ev _ (Ev.assign (Opd.mk rfl)) rfl ?_
        refine St.nil ?_
        refine St.then_normal ?_
        refine St.rett ?_
        refine St.rets [_] [] Tryd.results56 ⟨rfl, trivial⟩ ?_ (fun _ hw => hw.sub)
        exact ie (by omega)
  · skip
    try simp only [Bool.and_true, Bool.true_and, decide_eq_true_eq, decide_eq_false_iff_not, Bool.and_eq_true, Bool.or_eq_true, Bool.and_eq_false_iff, Bool.or_eq_false_iff, Bool.not_eq_true', Bool.not_eq_false', beq_iff_eq, beq_eq_false_iff_ne, Int.not_lt, Int.not_le] at h4
    refine St.skip ?_
    refine St.then_normal ?_
    refine St.seq ?_
    refine St.seq ?_
    refine St.rg ?_
    refine St.ev _ (Ev.move (Opd.mk rfl)) rfl ?_
    refine St.ev _ (Ev.geq (Opd.mk rfl) (Opd.mk rfl)) rfl ?_
    refine St.nil ?_
    refine St.then_normal ?_
    refine St.cond _ rfl (fun h8 => ?_) (fun h8 => ?_)
    · skip
      try simp only [Bool.and_true, Bool.true_and, decide_eq_true_eq, decide_eq_false_iff_not, Bool.and_eq_true, Bool.or_eq_true, Bool.and_eq_false_iff, Bool.or_eq_false_iff, Bool.not_eq_true', Bool.not_eq_false', beq_iff_eq, beq_eq_false_iff_ne, Int.not_lt, Int.not_le] at h8
      have g8 := len64_16 h8
      refine St.seq ?_
      refine St.rg ?_
      refine St.ev _ (Ev.move (Opd.mk rfl)) rfl ?_
      refine St.ev _ (Ev.shrU 16 65536 (by decide) (Opd.mk rfl) (Opd.mk rfl) (by decide)) rfl ?_
      refine St.ev _ (Ev.assign (Opd.mk rfl)) rfl ?_
      refine St.nil ?_
      refine St.then_normal ?_
      refine St.rg ?_
      refine St.ev _ (Ev.move (Opd.mk rfl)) rfl ?_
      refine St.ev _ (Ev.add (Opd.mk rfl) (Opd.mk rfl) (by omega)) rfl ?_
      refine St.ev _ (Ev.assign (Opd.mk rfl)) rfl ?_
      refine St.nil ?_
      refine St.then_normal ?_
      refine St.seq ?_
      refine St.seq ?_
      refine St.rg ?_
      refine St.ev _ (Ev.move (Opd.mk rfl)) rfl ?_
      refine St.ev _ (Ev.geq (Opd.mk rfl) (Opd.mk rfl)) rfl ?_
      refine St.nil ?_
      refine St.then_normal ?_
      refine St.cond _ rfl (fun h14 => ?_) (fun h14 => ?_)
      · skip
        try simp only [Bool.and_true, Bool.true_and, decide_eq_true_eq, decide_eq_false_iff_not, Bool.and_eq_true, Bool.or_eq_true, Bool.and_eq_false_iff, Bool.or_eq_false_iff, Bool.not_eq_true', Bool.not_eq_false', beq_iff_eq, beq_eq_false_iff_ne, Int.not_lt, Int.not_le] at h14
        have g14 := len64_8 h14
        refine St.seq ?_
        refine St.rg ?_
        refine St.ev _ (Ev.move (Opd.mk rfl)) rfl ?_
        refine St.ev _ (Ev.shrU 8 256 (by decide) (Opd.mk rfl) (Opd.mk rfl) (by decide)) rfl ?_
        refine St.ev _ (Ev.assign (Opd.mk rfl)) rfl ?_
        refine St.nil ?_
        refine St.then_normal ?_
        refine St.rg ?_
        refine St.ev _ (Ev.move (Opd.mk rfl)) rfl ?_
        refine St.ev _ (Ev.add (Opd.mk rfl) (Opd.mk rfl) (by omega)) rfl ?_
        refine St.ev _ (Ev.assign (Opd.mk rfl)) rfl ?_
        refine St.nil ?_
        refine St.then_normal ?_
        refine St.seq ?_
        refine St.rg ?_
        refine St.ev _ (Ev.move (Opd.mk rfl)) rfl ?_
        refine St.ev _ (Ev.move (Opd.mk rfl)) rfl ?_
        refine St.ev _ (Ev.convK (Opd.mk rfl) (by rw [Tryd.underlying39]; rfl) Tryd.underlying5 (wrap8 (by omega))) rfl ?_
        refine St.ev _ (Ev.idxstrK (Opd.mk rfl) (Opd.mk rfl) Tryd.underlying9 rfl (by show _ < 256; omega)) rfl ?_
        refine St.slot 22 _ rfl (tab_eq (by omega)) ?_
        refine St.ev _ (Ev.convUI (Opd.mk rfl) (by rw [Tryd.underlying5]; rfl) Tryd.underlying3 (by omega)) rfl ?_
        refine St.ev _ (Ev.add (Opd.mk rfl) (Opd.mk rfl) (by omega)) rfl ?_
        refine St.ev _ (Ev.assign (Opd.mk rfl)) rfl ?_
        refine St.nil ?_
        refine St.then_normal ?_
        refine St.rett ?_
        refine St.rets [_] [] Tryd.results56 ⟨rfl, trivial⟩ ?_ (fun _ hw => hw.sub)
        exact ie (by omega)
      · skip
        try simp only [Bool.and_true, Bool.true_and, decide_eq_true_eq, decide_eq_false_iff_not, Bool.and_eq_true, Bool.or_eq_true, Bool.and_eq_false_iff, Bool.or_eq_false_iff, Bool.not_eq_true', Bool.not_eq_false', beq_iff_eq, beq_eq_false_iff_ne, Int.not_lt, Int.not_le] at h14
        refine St.skip ?_
        refine St.then_normal ?_
        refine St.seq ?_
        refine St.rg ?_
        refine St.ev _ (Ev.move (Opd.mk rfl)) rfl ?_
        refine St.ev _ (Ev.move (Opd.mk rfl)) rfl ?_
        refine St.ev _ (Ev.convK (Opd.mk rfl) (by rw [Tryd.underlying39]; rfl) Tryd.underlying5 (wrap8 (by omega))) rfl ?_
        refine St.ev _ (Ev.idxstrK (Opd.mk rfl) (Opd.mk rfl) Tryd.underlying9 rfl (by show _ < 256; omega)) rfl ?_
        refine St.slot 22 _ rfl (tab_eq (by omega)) ?_
        refine St.ev _ (Ev.convUI (Opd.mk rfl) (by rw [Tryd.underlying5]; rfl) Tryd.underlying3 (by omega)) rfl ?_
        refine St.ev _ (Ev.add (Opd.mk rfl) (Opd.mk rfl) (by omega)) rfl ?_
        refine St.ev _ (Ev.assign (Opd.mk rfl)) rfl ?_
        refine St.nil ?_
        refine St.then_normal ?_
        refine St.rett ?_
        refine St.rets [_] [] Tryd.results56 ⟨rfl, trivial⟩ ?_ (fun _ hw => hw.sub)
        exact ie (by omega)
    · skip
      try simp only [Bool.and_true, Bool.true_and, decide_eq_true_eq, decide_eq_false_iff_not, Bool.and_eq_true, Bool.or_eq_true, Bool.and_eq_false_iff, Bool.or_eq_false_iff, Bool.not_eq_true', Bool.not_eq_false', beq_iff_eq, beq_eq_false_iff_ne, Int.not_lt, Int.not_le] at h8
      refine St.skip ?_
      refine St.then_normal ?_
      refine St.seq ?_
      refine St.seq ?_
      refine St.rg ?_
      refine St.ev _ (Ev.move (Opd.mk rfl)) rfl ?_
      refine St.ev _ (Ev.geq (Opd.mk rfl) (Opd.mk rfl)) rfl ?_
      refine St.nil ?_
      refine St.then_normal ?_
      refine St.cond _ rfl (fun h14 => ?_) (fun h14 => ?_)
      · skip
        try simp only [Bool.and_true, Bool.true_and, decide_eq_true_eq, decide_eq_false_iff_not, Bool.and_eq_true, Bool.or_eq_true, Bool.and_eq_false_iff, Bool.or_eq_false_iff, Bool.not_eq_true', Bool.not_eq_false', beq_iff_eq, beq_eq_false_iff_ne, Int.not_lt, Int.not_le] at h14
        have g14 := len64_8 h14
        refine St.seq ?_
        refine St.rg ?_
        refine St.ev _ (Ev.move (Opd.mk rfl)) rfl ?_
        refine St.ev _ (Ev.shrU 8 256 (by decide) (Opd.mk rfl) (Opd.mk rfl) (by decide)) rfl ?_
        refine St.ev _ (Ev.assign (Opd.mk rfl)) rfl ?_
        refine St.nil ?_
        refine St.then_normal ?_
        refine St.rg ?_
        refine St.ev _ (Ev.move (Opd.mk rfl)) rfl ?_
        refine St.ev _ (Ev.add (Opd.mk rfl) (Opd.mk rfl) (by omega)) rfl ?_
        refine St.ev _ (Ev.assign (Opd.mk rfl)) rfl ?_
        refine St.nil ?_
        refine St.then_normal ?_
        refine St.seq ?_
        refine St.rg ?_
        refine St.ev _ (Ev.move (Opd.mk rfl)) rfl ?_
        refine St.ev _ (Ev.move (Opd.mk rfl)) rfl ?_
        refine St.ev _ (Ev.convK (Opd.mk rfl) (by rw [Tryd.underlying39]; rfl) Tryd.underlying5 (wrap8 (by omega))) rfl ?_
        refine St.ev _ (Ev.idxstrK (Opd.mk rfl) (Opd.mk rfl) Tryd.underlying9 rfl (by show _ < 256; omega)) rfl ?_
        refine St.slot 22 _ rfl (tab_eq (by omega)) ?_
        refine St.ev _ (Ev.convUI (Opd.mk rfl) (by rw [Tryd.underlying5]; rfl) Tryd.underlying3 (by omega)) rfl ?_
        refine St.ev _ (Ev.add (Opd.mk rfl) (Opd.mk rfl) (by omega)) rfl ?_
        refine St.ev _ (Ev.assign (Opd.mk rfl)) rfl ?_
        refine St.nil ?_
        refine St.then_normal ?_
        refine St.rett ?_
        refine St.rets [_] [] Tryd.results56 ⟨rfl, trivial⟩ ?_ (fun _ hw => hw.sub)
        exact ie (by omega)
      · skip
        try simp only [Bool.and_true, Bool.true_and, decide_eq_true_eq, decide_eq_false_iff_not, Bool.and_eq_true, Bool.or_eq_true, Bool.and_eq_false_iff, Bool.or_eq_false_iff, Bool.not_eq_true', Bool.not_eq_false', beq_iff_eq, beq_eq_false_iff_ne, Int.not_lt, Int.not_le] at h14
        refine St.skip ?_
        refine St.then_normal ?_
        refine St.seq ?_
        refine St.rg ?_
        refine St.ev _ (Ev.move (Opd.mk rfl)) rfl ?_
        refine St.ev _ (Ev.move (Opd.mk rfl)) rfl ?_
        refine St.ev _ (Ev.convK (Opd.mk rfl) (by rw [Tryd.underlying39]; rfl) Tryd.underlying5 (wrap8 (by omega))) rfl ?_
        refine St.ev _ (Ev.idxstrK (Opd.mk rfl) (Opd.mk rfl) Tryd.underlying9 rfl (by show _ < 256; omega)) rfl ?_
        refine St.slot 22 _ rfl (tab_eq (by omega)) ?_
        refine St.ev _ (Ev.convUI (Opd.mk rfl) (by rw [Tryd.underlying5]; rfl) Tryd.underlying3 (by omega)) rfl ?_
        refine St.ev _ (Ev.add (Opd.mk rfl) (Opd.mk rfl) (by omega)) rfl ?_
        refine St.ev _ (Ev.assign (Opd.mk rfl)) rfl ?_
        refine St.nil ?_
        refine St.then_normal ?_
        refine St.rett ?_
        refine St.rets [_] [] Tryd.results56 ⟨rfl, trivial⟩ ?_ (fun _ hw => hw.sub)
        exact ie (by omega)

theorem LeadingZeros64_spec (x : Nat) (hx : x < 18446744073709551616) : FnV Tryd.prog 47 #[uv x] [] (iv (64 - (len64 x : Int))) := by
  refine FnV.body0 (args := [uv x]) 6 Tryd.func47 rfl Tryd.ntmps47 rfl (fun c => ?_)
  refine St.seq ?_
  have hl := len64_le hx
  refine St.rg ?_
  refine St.ev _ (Ev.assign (Opd.mk rfl)) rfl ?_
  refine St.nil ?_
  refine St.then_normal ?_
  refine St.seq ?_
  refine St.rg ?_
  refine St.ev _ (Ev.move (Opd.mk rfl)) rfl ?_
  refine St.ev _ (Ev.call (Len64_spec x hx) cb56 (Opds.cons (Opd.mk rfl) Opds.nil)) rfl ?_
  refine St.ev _ (Ev.sub (Opd.mk rfl) (Opd.mk rfl) (by omega)) rfl ?_
  refine St.ev _ (Ev.assign (Opd.mk rfl)) rfl ?_
  refine St.nil ?_
  refine St.then_normal ?_
  refine St.rett ?_
  refine St.rets [_] [] Tryd.results47 ⟨rfl, trivial⟩ ?_ (fun _ hw => hw.sub)
  rfl

theorem Div64_spec (hi lo y : Nat) (hhi : hi < y) (hlo : lo < 18446744073709551616) (hy : y < 18446744073709551616) : FnV Tryd.prog 37 #[uv hi, uv lo, uv y] [] (.tuple #[uv ((18446744073709551616 * hi + lo) / y), uv ((18446744073709551616 * hi + lo) % y)]) := by
  refine FnV.body0 (args := [uv hi, uv lo, uv y]) 135 Tryd.func37 rfl Tryd.ntmps37 rfl (fun c => ?_)
  refine St.seq ?_
  refine St.rg ?_
  refine St.ev _ (Ev.assign (Opd.mk rfl)) rfl ?_
  refine St.ev _ (Ev.assign (Opd.mk rfl)) rfl ?_
  refine St.nil ?_
  refine St.then_normal ?_
  refine St.seq ?_
  refine St.seq ?_
  refine St.rg ?_
  refine St.ev _ (Ev.move (Opd.mk rfl)) rfl ?_
  refine St.ev _ (Ev.eql (Opd.mk rfl) (Opd.mk rfl)) rfl ?_
  refine St.nil ?_
  refine St.then_normal ?_
  refine St.cond _ rfl (fun h20 => ?_) (fun h20 => ?_)
  · skip
    try simp only [Bool.and_true, Bool.true_and, decide_eq_true_eq, decide_eq_false_iff_not, Bool.and_eq_true, Bool.or_eq_true, Bool.and_eq_false_iff, Bool.or_eq_false_iff, Bool.not_eq_true', Bool.not_eq_false', beq_iff_eq, beq_eq_false_iff_ne, Int.not_lt, Int.not_le] at h20
    exfalso; omega
  · skip
    try simp only [Bool.and_true, Bool.true_and, decide_eq_true_eq, decide_eq_false_iff_not, Bool.and_eq_true, Bool.or_eq_true, Bool.and_eq_false_iff, Bool.or_eq_false_iff, Bool.not_eq_true', Bool.not_eq_false', beq_iff_eq, beq_eq_false_iff_ne, Int.not_lt, Int.not_le] at h20
    refine St.skip ?_
    refine St.then_normal ?_
    refine St.seq ?_
    refine St.seq ?_
    refine St.rg ?_
    refine St.ev _ (Ev.move (Opd.mk rfl)) rfl ?_
    refine St.ev _ (Ev.move (Opd.mk rfl)) rfl ?_
    refine St.ev _ (Ev.leq (Opd.mk rfl) (Opd.mk rfl)) rfl ?_
    refine St.nil ?_
    refine St.then_normal ?_
    refine St.cond _ rfl (fun h24 => ?_) (fun h24 => ?_)
    · skip
      try simp only [Bool.and_true, Bool.true_and, decide_eq_true_eq, decide_eq_false_iff_not, Bool.and_eq_true, Bool.or_eq_true, Bool.and_eq_false_iff, Bool.or_eq_false_iff, Bool.not_eq_true', Bool.not_eq_false', beq_iff_eq, beq_eq_false_iff_ne, Int.not_lt, Int.not_le] at h24
      exfalso; omega
    · skip
      try simp only [Bool.and_true, Bool.true_and, decide_eq_true_eq, decide_eq_false_iff_not, Bool.and_eq_true, Bool.or_eq_true, Bool.and_eq_false_iff, Bool.or_eq_false_iff, Bool.not_eq_true', Bool.not_eq_false', beq_iff_eq, beq_eq_false_iff_ne, Int.not_lt, Int.not_le] at h24
      refine St.skip ?_
      refine St.then_normal ?_
      refine St.seq ?_
      refine St.seq ?_
      refine St.rg ?_
      refine St.ev _ (Ev.move (Opd.mk rfl)) rfl ?_
      refine St.ev _ (Ev.eql (Opd.mk rfl) (Opd.mk rfl)) rfl ?_
      refine St.nil ?_
      refine St.then_normal ?_
      refine St.cond _ rfl (fun h27 => ?_) (fun h27 => ?_)
      · skip
        try simp only [Bool.and_true, Bool.true_and, decide_eq_true_eq, decide_eq_false_iff_not, Bool.and_eq_true, Bool.or_eq_true, Bool.and_eq_false_iff, Bool.or_eq_false_iff, Bool.not_eq_true', Bool.not_eq_false', beq_iff_eq, beq_eq_false_iff_ne, Int.not_lt, Int.not_le] at h27
        refine St.seq ?_
        refine St.any mixed (Mm.drawn _ _) ?_
        refine St.defer 0 (by repeat (first | refine NP.then ?_ | refine NP.inBlock ?_ | exact NP.body)) (by kernel_rfl) rfl (Es.move (Opd.mk rfl)) (by kernel_rfl) rfl ?_
        refine St.defer 1 (by repeat (first | refine NP.then ?_ | refine NP.inBlock ?_ | exact NP.body)) (by kernel_rfl) rfl (Es.move (Opd.mk rfl)) (by kernel_rfl) rfl ?_
        refine St.defer 3 (by repeat (first | refine NP.then ?_ | refine NP.inBlock ?_ | exact NP.body)) (by kernel_rfl) rfl (Es.move (Opd.mk rfl)) (by kernel_rfl) rfl ?_
        refine St.defer 4 (by repeat (first | refine NP.then ?_ | refine NP.inBlock ?_ | exact NP.body)) (by kernel_rfl) rfl (Es.move (Opd.mk rfl)) (by kernel_rfl) rfl ?_
        refine St.any2 (i := 2) (j := 5) (by kernel_rfl) rfl rfl ?_ ?_
        · skip
          refine St.ev _ (Ev.quoU (Opd.mk rfl) (Opd.mk rfl) (by omega)) rfl ?_
          refine St.nil ?_
          refine St.then_normal ?_
          refine St.defer 6 (by repeat (first | refine NP.then ?_ | refine NP.inBlock ?_ | exact NP.body)) (by kernel_rfl) rfl (Es.assign (Opd.mk rfl)) (by kernel_rfl) rfl ?_
          refine St.any1 (i := 5) (by kernel_rfl) rfl ?_
          refine St.ev _ (Ev.remU (Opd.mk rfl) (Opd.mk rfl) (by omega)) rfl ?_
          refine St.nil ?_
          refine St.then_normal ?_
          refine St.defer 7 (by repeat (first | refine NP.then ?_ | refine NP.inBlock ?_ | exact NP.body)) (by kernel_rfl) rfl (Es.assign (Opd.mk rfl)) (by kernel_rfl) rfl ?_
          refine St.any_done (by kernel_rfl) ?_
          refine St.then_normal ?_
          refine St.rett ?_
          refine St.then_ret ?_
          refine St.rets [_, _] [] Tryd.results37 ⟨rfl, ⟨rfl, trivial⟩⟩ ?_ (fun _ hw => hw.sub)
          exact uve (by rw [show hi = 0 by omega]; simp) (by rw [show hi = 0 by omega]; simp)
        · skip
          refine St.ev _ (Ev.remU (Opd.mk rfl) (Opd.mk rfl) (by omega)) rfl ?_
          refine St.nil ?_
          refine St.then_normal ?_
          refine St.any1 (i := 2) (by kernel_rfl) rfl ?_
          refine St.ev _ (Ev.quoU (Opd.mk rfl) (Opd.mk rfl) (by omega)) rfl ?_
          refine St.nil ?_
          refine St.then_normal ?_
          refine St.defer 6 (by repeat (first | refine NP.then ?_ | refine NP.inBlock ?_ | exact NP.body)) (by kernel_rfl) rfl (Es.assign (Opd.mk rfl)) (by kernel_rfl) rfl ?_
          refine St.defer 7 (by repeat (first | refine NP.then ?_ | refine NP.inBlock ?_ | exact NP.body)) (by kernel_rfl) rfl (Es.assign (Opd.mk rfl)) (by kernel_rfl) rfl ?_
          refine St.any_done (by kernel_rfl) ?_
          refine St.then_normal ?_
          refine St.rett ?_
          refine St.then_ret ?_
          refine St.rets [_, _] [] Tryd.results37 ⟨rfl, ⟨rfl, trivial⟩⟩ ?_ (fun _ hw => hw.sub)
          exact uve (by rw [show hi = 0 by omega]; simp) (by rw [show hi = 0 by omega]; simp)
      · skip
        try simp only [Bool.and_true, Bool.true_and, decide_eq_true_eq, decide_eq_false_iff_not, Bool.and_eq_true, Bool.or_eq_true, Bool.and_eq_false_iff, Bool.or_eq_false_iff, Bool.not_eq_true', Bool.not_eq_false', beq_iff_eq, beq_eq_false_iff_ne, Int.not_lt, Int.not_le] at h27
        have hl := len64_le hy
        have hn := len64_norm (show 0 < y by omega) hy
        refine St.skip ?_
        refine St.then_normal ?_
        refine St.seq ?_
        refine St.rg ?_
        refine St.ev _ (Ev.move (Opd.mk rfl)) rfl ?_
        refine St.ev _ (Ev.call (LeadingZeros64_spec y hy) cb47 (Opds.cons (Opd.mk rfl) Opds.nil)) rfl ?_
        refine St.ev _ (Ev.convIN (64 - len64 y) (Opd.mk rfl) (by rw [Tryd.underlying3]; rfl) Tryd.underlying64 (by omega)) rfl ?_
        have hs : 64 - len64 y ≤ 64 := Nat.sub_le _ _
        generalize 64 - len64 y = s at hn hs ⊢
        refine St.ev _ (Ev.assign (Opd.mk rfl)) rfl ?_
        refine St.nil ?_
        refine St.then_normal ?_
        refine St.seq ?_
        refine St.rg ?_
        refine St.ev _ (Ev.move (Opd.mk rfl)) rfl ?_
        refine St.ev _ (Ev.move (Opd.mk rfl)) rfl ?_
        refine St.ev _ (Ev.shlU (s) (2 ^ s) rfl (Opd.mk rfl) (Opd.mk rfl) (by omega)) rfl ?_
        obtain ⟨v, hv⟩ : ∃ v, v = y * 2 ^ s := ⟨_, rfl⟩
        refine St.slot 39 (uv v) rfl (by rw [hv, Nat.mod_eq_of_lt hn.2]) ?_
        rw [← hv] at hn
        have hv1 := hn.1
        have hv2 := hn.2
        obtain ⟨u, hu⟩ : ∃ u, u = hi * 2 ^ s + lo / 2 ^ (64 - s) := ⟨_, rfl⟩
        obtain ⟨z, hz⟩ : ∃ z, z = lo * 2 ^ s % 18446744073709551616 := ⟨_, rfl⟩
        obtain ⟨hu0, hN⟩ := div_shift hs hhi hlo hv hu hz
        have hz2 : z < 18446744073709551616 := by rw [hz]; exact Nat.mod_lt _ (by decide)
        have hsp := (shl_split hs hlo).2
        have ht0 : z / 4294967296 < 4294967296 := by omega
        have ht1 : z % 4294967296 < 4294967296 := by omega
        refine St.ev _ (Ev.assign (Opd.mk rfl)) rfl ?_
        refine St.nil ?_
        refine St.then_normal ?_
        refine St.seq ?_
        refine St.rg ?_
        refine St.ev _ (Ev.move (Opd.mk rfl)) rfl ?_
        refine St.ev _ (Ev.shrU 32 4294967296 (by decide) (Opd.mk rfl) (Opd.mk rfl) (by decide)) rfl ?_
        refine St.ev _ (Ev.assign (Opd.mk rfl)) rfl ?_
        refine St.nil ?_
        refine St.then_normal ?_
        refine St.seq ?_
        refine St.rg ?_
        refine St.ev _ (Ev.move (Opd.mk rfl)) rfl ?_
        refine St.ev _ (Ev.andU (b := 4294967295) 32 4294967296 (by decide) (Opd.mk rfl) (Opd.mk rfl) (⟨(by omega), by decide, by decide⟩)) rfl ?_
        refine St.ev _ (Ev.assign (Opd.mk rfl)) rfl ?_
        refine St.nil ?_
        refine St.then_normal ?_
        refine St.seq ?_
        refine St.rg ?_
        refine St.ev _ (Ev.move (Opd.mk rfl)) rfl ?_
        refine St.ev _ (Ev.move (Opd.mk rfl)) rfl ?_
        refine St.ev _ (Ev.shlU (s) (2 ^ s) rfl (Opd.mk rfl) (Opd.mk rfl) (by omega)) rfl ?_
        refine St.slot 46 (uv (hi * 2 ^ s)) rfl (by rw [Nat.mod_eq_of_lt (Nat.lt_of_le_of_lt (Nat.le_trans (Nat.le_add_right (hi * 2 ^ s) (lo / 2 ^ (64 - s))) (Nat.le_of_eq hu.symm)) (Nat.lt_trans hu0 hv2))]) ?_
        refine St.ev _ (Ev.move (Opd.mk rfl)) rfl ?_
        refine St.ev _ (Ev.move (Opd.mk rfl)) rfl ?_
        refine St.ev _ (Ev.subN (a := 64) (Opd.mk rfl) (Opd.mk rfl) (by omega)) rfl ?_
        refine St.ev _ (Ev.shrU (64 - s) _ rfl (Opd.mk rfl) (Opd.mk rfl) (by omega)) rfl ?_
        refine St.ev _ (Ev.orU (s) (Opd.mk rfl) (Opd.mk rfl) (⟨hsp, by rw [← hu]; omega⟩)) rfl ?_
        refine St.slot 51 (uv u) rfl (by rw [hu]) ?_
        refine St.ev _ (Ev.assign (Opd.mk rfl)) rfl ?_
        refine St.nil ?_
        refine St.then_normal ?_
        refine St.seq ?_
        refine St.rg ?_
        refine St.ev _ (Ev.move (Opd.mk rfl)) rfl ?_
        refine St.ev _ (Ev.move (Opd.mk rfl)) rfl ?_
        refine St.ev _ (Ev.shlU (s) (2 ^ s) rfl (Opd.mk rfl) (Opd.mk rfl) (by omega)) rfl ?_
        refine St.slot 54 (uv z) rfl (by rw [hz]) ?_
        refine St.ev _ (Ev.assign (Opd.mk rfl)) rfl ?_
        refine St.nil ?_
        refine St.then_normal ?_
        refine St.seq ?_
        refine St.rg ?_
        refine St.ev _ (Ev.move (Opd.mk rfl)) rfl ?_
        refine St.ev _ (Ev.shrU 32 4294967296 (by decide) (Opd.mk rfl) (Opd.mk rfl) (by decide)) rfl ?_
        refine St.ev _ (Ev.assign (Opd.mk rfl)) rfl ?_
        refine St.nil ?_
        refine St.then_normal ?_
        refine St.seq ?_
        refine St.rg ?_
        refine St.ev _ (Ev.move (Opd.mk rfl)) rfl ?_
        refine St.ev _ (Ev.andU (b := 4294967295) 32 4294967296 (by decide) (Opd.mk rfl) (Opd.mk rfl) (⟨(by omega), by decide, by decide⟩)) rfl ?_
        refine St.ev _ (Ev.assign (Opd.mk rfl)) rfl ?_
        refine St.nil ?_
        refine St.then_normal ?_
        refine St.seq ?_
        refine St.rg ?_
        refine St.ev _ (Ev.move (Opd.mk rfl)) rfl ?_
        refine St.ev _ (Ev.move (Opd.mk rfl)) rfl ?_
        refine St.ev _ (Ev.quoU (Opd.mk rfl) (Opd.mk rfl) (by omega)) rfl ?_
        obtain ⟨q0, hq0⟩ : ∃ q, q = u / (v / 4294967296) := ⟨_, rfl⟩
        refine St.slot 61 (uv q0) rfl (by rw [hq0]) ?_
        have hd0 : DivI u v (z / 4294967296) (q0, u - q0 * (v / 4294967296)) := by rw [hq0]; exact divI_init hv1 hv2 hu0 ht0
        have hle0 := Nat.div_mul_le_self u (v / 4294967296)
        rw [← hq0] at hle0
        refine St.ev _ (Ev.assign (Opd.mk rfl)) rfl ?_
        refine St.nil ?_
        refine St.then_normal ?_
        refine St.seq ?_
        refine St.rg ?_
        refine St.ev _ (Ev.move (Opd.mk rfl)) rfl ?_
        refine St.ev _ (Ev.move (Opd.mk rfl)) rfl ?_
        refine St.ev _ (Ev.move (Opd.mk rfl)) rfl ?_
        refine St.ev _ (Ev.mulN (Opd.mk rfl) (Opd.mk rfl) (Nat.lt_of_le_of_lt hle0 (by omega))) rfl ?_
        refine St.ev _ (Ev.subN (Opd.mk rfl) (Opd.mk rfl) (⟨hle0, by omega⟩)) rfl ?_
        refine St.ev _ (Ev.assign (Opd.mk rfl)) rfl ?_
        refine St.nil ?_
        refine St.then_normal ?_
        refine St.join (ι := Nat) (fun Q0 T => (15, uv Q0) :: T) (fun Q0 => []) (fun Q0 => Q0 = (4294967296 * u + z / 4294967296) / v) (Keep.cons 2 rfl (Keep.cons 6 rfl (Keep.cons 7 rfl (Keep.cons 8 rfl (Keep.cons 9 rfl (Keep.cons 10 rfl (Keep.cons 11 rfl (Keep.cons 13 rfl (Keep.cons 14 rfl Keep.nil))))))))) ?_ ?_
        · skip
          refine St.block ?_
          refine St.loopS (ι := Nat × Nat) (fun x T => (15, uv x.1) :: (16, uv x.2) :: T) (fun x => DivI u v (z / 4294967296) x) (fun x => x.1) (q0, u - q0 * (v / 4294967296)) (Keep.cons 2 rfl (Keep.cons 6 rfl (Keep.cons 7 rfl (Keep.cons 8 rfl (Keep.cons 9 rfl (Keep.cons 10 rfl (Keep.cons 11 rfl (Keep.cons 13 rfl (Keep.cons 14 rfl Keep.nil))))))))) hd0 (by repeat (first | exact Sub.nil | refine Sub.cons (by first | rfl | exact congrArg (fun z => some (iv z)) (by first | omega | (dsimp only; omega)) | exact congrArg (fun z => some (Value.bool z)) (by first | assumption | exact Eq.symm (by assumption))) ?_)) ?_
          intro x hphi
          have hq4 := hphi.rem
          have hq3 := hphi.top
          refine St.seq ?_
          refine St.seq ?_
          refine St.rg ?_
          refine St.ev _ (Ev.move (Opd.mk rfl)) rfl ?_
          refine St.ev _ (Ev.geq (Opd.mk rfl) (Opd.mk rfl)) rfl ?_
          refine St.ev _ (Ev.move (Opd.mk rfl)) rfl ?_
          refine St.gf _ rfl rfl (fun hg => Ev.move (Opd.mk rfl)) rfl ?_
          refine St.gf _ rfl rfl (fun hg => Ev.move (Opd.mk rfl)) rfl ?_
          refine St.gf _ rfl rfl (fun hg => Ev.mulU (Opd.gv rfl hg) (Opd.gv rfl hg)) rfl ?_
          refine St.gf _ rfl rfl (fun hg => Ev.move (Opd.mk rfl)) rfl ?_
          refine St.gf _ rfl rfl (fun hg => Ev.mulN (a := 4294967296) (Opd.mk rfl) (Opd.gv rfl hg) (by first | omega | (simp only [Bool.and_true, Bool.true_and, decide_eq_true_eq, decide_eq_false_iff_not, Bool.and_eq_true, Bool.or_eq_true, Bool.and_eq_false_iff, Bool.or_eq_false_iff, Bool.not_eq_true', Bool.not_eq_false', beq_iff_eq, beq_eq_false_iff_ne, Int.not_lt, Int.not_le] at hg; omega))) rfl ?_
          refine St.gf _ rfl rfl (fun hg => Ev.move (Opd.mk rfl)) rfl ?_
          refine St.gf _ rfl rfl (fun hg => Ev.addN (Opd.gv rfl hg) (Opd.gv rfl hg) (by first | omega | (simp only [Bool.and_true, Bool.true_and, decide_eq_true_eq, decide_eq_false_iff_not, Bool.and_eq_true, Bool.or_eq_true, Bool.and_eq_false_iff, Bool.or_eq_false_iff, Bool.not_eq_true', Bool.not_eq_false', beq_iff_eq, beq_eq_false_iff_ne, Int.not_lt, Int.not_le] at hg; omega))) rfl ?_
          refine St.gf _ rfl rfl (fun hg => Ev.gtr (Opd.gv rfl hg) (Opd.gv rfl hg)) rfl ?_
          refine St.ev _ (Ev.or (Opd.mk rfl) (fun hp => Opd.gv rfl hp)) rfl ?_
          refine St.nil ?_
          refine St.then_normal ?_
          refine St.cond _ rfl (fun h78 => ?_) (fun h78 => ?_)
          · skip
            simp only [Bool.and_true, Bool.true_and, decide_eq_true_eq, decide_eq_false_iff_not, Bool.and_eq_true, Bool.or_eq_true, Bool.and_eq_false_iff, Bool.or_eq_false_iff, Bool.not_eq_true', Bool.not_eq_false', beq_iff_eq, beq_eq_false_iff_ne, Int.not_lt, Int.not_le] at h78
            have hc := divI_test_t h78
            obtain ⟨k1, k2, k3⟩ := divI_more hv1 hv2 hu0 ht0 hphi hc
            refine St.skip ?_
            refine St.then_normal ?_
            refine St.block ?_
            refine St.seq ?_
            refine St.rg ?_
            refine St.ev _ (Ev.move (Opd.mk rfl)) rfl ?_
            refine St.ev _ (Ev.subN (b := 1) (Opd.mk rfl) (Opd.mk rfl) (by omega)) rfl ?_
            refine St.ev _ (Ev.assign (Opd.mk rfl)) rfl ?_
            refine St.nil ?_
            refine St.then_normal ?_
            refine St.seq ?_
            refine St.rg ?_
            refine St.ev _ (Ev.move (Opd.mk rfl)) rfl ?_
            refine St.ev _ (Ev.move (Opd.mk rfl)) rfl ?_
            refine St.ev _ (Ev.addN (Opd.mk rfl) (Opd.mk rfl) (by omega)) rfl ?_
            refine St.ev _ (Ev.assign (Opd.mk rfl)) rfl ?_
            refine St.nil ?_
            refine St.then_normal ?_
            refine St.seq ?_
            refine St.rg ?_
            refine St.ev _ (Ev.move (Opd.mk rfl)) rfl ?_
            refine St.ev _ (Ev.geq (Opd.mk rfl) (Opd.mk rfl)) rfl ?_
            refine St.nil ?_
            refine St.then_normal ?_
            refine St.cond _ rfl (fun h85 => ?_) (fun h85 => ?_)
            · skip
              try simp only [Bool.and_true, Bool.true_and, decide_eq_true_eq, decide_eq_false_iff_not, Bool.and_eq_true, Bool.or_eq_true, Bool.and_eq_false_iff, Bool.or_eq_false_iff, Bool.not_eq_true', Bool.not_eq_false', beq_iff_eq, beq_eq_false_iff_ne, Int.not_lt, Int.not_le] at h85
              refine St.exit ?_
              refine St.in_miss rfl ?_
              refine St.then_exit ?_
              refine St.in_hit ?_
              refine St.then_normal ?_
              refine St.met (x.1 - 1) (divI_break hv1 hv2 hu0 ht0 hphi hc (by omega)) (by repeat (first | exact Sub.nil | refine Sub.cons (by first | rfl | exact congrArg (fun z => some (iv z)) (by first | omega | (dsimp only; omega)) | exact congrArg (fun z => some (Value.bool z)) (by first | assumption | exact Eq.symm (by assumption))) ?_)) (fun _ hw => hw.sub)
            · skip
              try simp only [Bool.and_true, Bool.true_and, decide_eq_true_eq, decide_eq_false_iff_not, Bool.and_eq_true, Bool.or_eq_true, Bool.and_eq_false_iff, Bool.or_eq_false_iff, Bool.not_eq_true', Bool.not_eq_false', beq_iff_eq, beq_eq_false_iff_ne, Int.not_lt, Int.not_le] at h85
              refine St.skip ?_
              refine St.in_normal ?_
              refine St.then_normal ?_
              refine St.againS (x.1 - 1, x.2 + v / 4294967296) (divI_next hv1 hv2 hu0 ht0 hphi hc (by omega)) (by first | omega | (dsimp only; omega)) (by repeat (first | exact Sub.nil | refine Sub.cons (by first | rfl | exact congrArg (fun z => some (iv z)) (by first | omega | (dsimp only; omega)) | exact congrArg (fun z => some (Value.bool z)) (by first | assumption | exact Eq.symm (by assumption))) ?_)) (fun _ hw => hw.sub)
          · skip
            simp only [Bool.and_true, Bool.true_and, decide_eq_true_eq, decide_eq_false_iff_not, Bool.and_eq_true, Bool.or_eq_true, Bool.and_eq_false_iff, Bool.or_eq_false_iff, Bool.not_eq_true', Bool.not_eq_false', beq_iff_eq, beq_eq_false_iff_ne, Int.not_lt, Int.not_le] at h78
            have hst := divI_stop hv1 hphi (divI_test_f (by omega))
            refine St.exit ?_
            refine St.then_exit ?_
            refine St.then_exit ?_
            refine St.in_hit ?_
            refine St.then_normal ?_
            refine St.met x.1 hst (by repeat (first | exact Sub.nil | refine Sub.cons (by first | rfl | exact congrArg (fun z => some (iv z)) (by first | omega | (dsimp only; omega)) | exact congrArg (fun z => some (Value.bool z)) (by first | assumption | exact Eq.symm (by assumption))) ?_)) (fun _ hw => hw.sub)
        · skip
          intro Q0 hphi
          refine St.seq ?_
          refine St.rg ?_
          refine St.ev _ (Ev.move (Opd.mk rfl)) rfl ?_
          refine St.ev _ (Ev.mulUr (b := 4294967296) (Opd.mk rfl) (Opd.mk rfl)) rfl ?_
          refine St.ev _ (Ev.move (Opd.mk rfl)) rfl ?_
          refine St.ev _ (Ev.addU (Opd.mk rfl) (Opd.mk rfl)) rfl ?_
          refine St.ev _ (Ev.move (Opd.mk rfl)) rfl ?_
          refine St.ev _ (Ev.move (Opd.mk rfl)) rfl ?_
          refine St.ev _ (Ev.mulU (Opd.mk rfl) (Opd.mk rfl)) rfl ?_
          refine St.ev _ (Ev.subU (Opd.mk rfl) (Opd.mk rfl) (by omega)) rfl ?_
          obtain ⟨r1, hr1⟩ : ∃ r, r = (4294967296 * u + z / 4294967296) % v := ⟨_, rfl⟩
          have hu1 : r1 < v := by rw [hr1]; exact Nat.mod_lt _ (by omega)
          have hE1 : Q0 * v + r1 = 4294967296 * u + z / 4294967296 := by rw [hphi, hr1, Nat.mul_comm]; exact Nat.div_add_mod _ _
          refine St.slot 93 (uv r1) rfl (by rw [div_rest hE1 hu1 hv2]) ?_
          refine St.ev _ (Ev.assign (Opd.mk rfl)) rfl ?_
          refine St.nil ?_
          refine St.then_normal ?_
          refine St.seq ?_
          refine St.rg ?_
          refine St.ev _ (Ev.move (Opd.mk rfl)) rfl ?_
          refine St.ev _ (Ev.move (Opd.mk rfl)) rfl ?_
          refine St.ev _ (Ev.quoU (Opd.mk rfl) (Opd.mk rfl) (by omega)) rfl ?_
          obtain ⟨q1, hq1⟩ : ∃ q, q = r1 / (v / 4294967296) := ⟨_, rfl⟩
          refine St.slot 96 (uv q1) rfl (by rw [hq1]) ?_
          have hd1 : DivI r1 v (z % 4294967296) (q1, r1 - q1 * (v / 4294967296)) := by rw [hq1]; exact divI_init hv1 hv2 hu1 ht1
          have hle1 := Nat.div_mul_le_self r1 (v / 4294967296)
          rw [← hq1] at hle1
          refine St.ev _ (Ev.assign (Opd.mk rfl)) rfl ?_
          refine St.nil ?_
          refine St.then_normal ?_
          refine St.seq ?_
          refine St.rg ?_
          refine St.ev _ (Ev.move (Opd.mk rfl)) rfl ?_
          refine St.ev _ (Ev.move (Opd.mk rfl)) rfl ?_
          refine St.ev _ (Ev.move (Opd.mk rfl)) rfl ?_
          refine St.ev _ (Ev.mulN (Opd.mk rfl) (Opd.mk rfl) (Nat.lt_of_le_of_lt hle1 (by omega))) rfl ?_
          refine St.ev _ (Ev.subN (Opd.mk rfl) (Opd.mk rfl) (⟨hle1, by omega⟩)) rfl ?_
          refine St.ev _ (Ev.assign (Opd.mk rfl)) rfl ?_
          refine St.nil ?_
          refine St.then_normal ?_
          refine St.join (ι := Nat) (fun Q1 T => (18, uv Q1) :: T) (fun Q1 => []) (fun Q1 => Q1 = (4294967296 * r1 + z % 4294967296) / v) (Keep.cons 2 rfl (Keep.cons 6 rfl (Keep.cons 7 rfl (Keep.cons 8 rfl (Keep.cons 14 rfl (Keep.cons 15 rfl (Keep.cons 17 rfl Keep.nil))))))) ?_ ?_
          · skip
            refine St.block ?_
            refine St.loopS (ι := Nat × Nat) (fun x T => (18, uv x.1) :: (16, uv x.2) :: T) (fun x => DivI r1 v (z % 4294967296) x) (fun x => x.1) (q1, r1 - q1 * (v / 4294967296)) (Keep.cons 2 rfl (Keep.cons 6 rfl (Keep.cons 7 rfl (Keep.cons 8 rfl (Keep.cons 9 rfl (Keep.cons 10 rfl (Keep.cons 14 rfl (Keep.cons 15 rfl (Keep.cons 17 rfl Keep.nil))))))))) hd1 (by repeat (first | exact Sub.nil | refine Sub.cons (by first | rfl | exact congrArg (fun z => some (iv z)) (by first | omega | (dsimp only; omega)) | exact congrArg (fun z => some (Value.bool z)) (by first | assumption | exact Eq.symm (by assumption))) ?_)) ?_
            intro x hphi
            have hq4 := hphi.rem
            have hq3 := hphi.top
            refine St.seq ?_
            refine St.seq ?_
            refine St.rg ?_
            refine St.ev _ (Ev.move (Opd.mk rfl)) rfl ?_
            refine St.ev _ (Ev.geq (Opd.mk rfl) (Opd.mk rfl)) rfl ?_
            refine St.ev _ (Ev.move (Opd.mk rfl)) rfl ?_
            refine St.gf _ rfl rfl (fun hg => Ev.move (Opd.mk rfl)) rfl ?_
            refine St.gf _ rfl rfl (fun hg => Ev.move (Opd.mk rfl)) rfl ?_
            refine St.gf _ rfl rfl (fun hg => Ev.mulU (Opd.gv rfl hg) (Opd.gv rfl hg)) rfl ?_
            refine St.gf _ rfl rfl (fun hg => Ev.move (Opd.mk rfl)) rfl ?_
            refine St.gf _ rfl rfl (fun hg => Ev.mulN (a := 4294967296) (Opd.mk rfl) (Opd.gv rfl hg) (by first | omega | (simp only [Bool.and_true, Bool.true_and, decide_eq_true_eq, decide_eq_false_iff_not, Bool.and_eq_true, Bool.or_eq_true, Bool.and_eq_false_iff, Bool.or_eq_false_iff, Bool.not_eq_true', Bool.not_eq_false', beq_iff_eq, beq_eq_false_iff_ne, Int.not_lt, Int.not_le] at hg; omega))) rfl ?_
            refine St.gf _ rfl rfl (fun hg => Ev.move (Opd.mk rfl)) rfl ?_
            refine St.gf _ rfl rfl (fun hg => Ev.addN (Opd.gv rfl hg) (Opd.gv rfl hg) (by first | omega | (simp only [Bool.and_true, Bool.true_and, decide_eq_true_eq, decide_eq_false_iff_not, Bool.and_eq_true, Bool.or_eq_true, Bool.and_eq_false_iff, Bool.or_eq_false_iff, Bool.not_eq_true', Bool.not_eq_false', beq_iff_eq, beq_eq_false_iff_ne, Int.not_lt, Int.not_le] at hg; omega))) rfl ?_
            refine St.gf _ rfl rfl (fun hg => Ev.gtr (Opd.gv rfl hg) (Opd.gv rfl hg)) rfl ?_
            refine St.ev _ (Ev.or (Opd.mk rfl) (fun hp => Opd.gv rfl hp)) rfl ?_
            refine St.nil ?_
            refine St.then_normal ?_
            refine St.cond _ rfl (fun h113 => ?_) (fun h113 => ?_)
            · skip
              simp only [Bool.and_true, Bool.true_and, decide_eq_true_eq, decide_eq_false_iff_not, Bool.and_eq_true, Bool.or_eq_true, Bool.and_eq_false_iff, Bool.or_eq_false_iff, Bool.not_eq_true', Bool.not_eq_false', beq_iff_eq, beq_eq_false_iff_ne, Int.not_lt, Int.not_le] at h113
              have hc := divI_test_t h113
              obtain ⟨k1, k2, k3⟩ := divI_more hv1 hv2 hu1 ht1 hphi hc
              refine St.skip ?_
              refine St.then_normal ?_
              refine St.block ?_
              refine St.seq ?_
              refine St.rg ?_
              refine St.ev _ (Ev.move (Opd.mk rfl)) rfl ?_
              refine St.ev _ (Ev.subN (b := 1) (Opd.mk rfl) (Opd.mk rfl) (by omega)) rfl ?_
              refine St.ev _ (Ev.assign (Opd.mk rfl)) rfl ?_
              refine St.nil ?_
              refine St.then_normal ?_
              refine St.seq ?_
              refine St.rg ?_
              refine St.ev _ (Ev.move (Opd.mk rfl)) rfl ?_
              refine St.ev _ (Ev.move (Opd.mk rfl)) rfl ?_
              refine St.ev _ (Ev.addN (Opd.mk rfl) (Opd.mk rfl) (by omega)) rfl ?_
              refine St.ev _ (Ev.assign (Opd.mk rfl)) rfl ?_
              refine St.nil ?_
              refine St.then_normal ?_
              refine St.seq ?_
              refine St.rg ?_
              refine St.ev _ (Ev.move (Opd.mk rfl)) rfl ?_
              refine St.ev _ (Ev.geq (Opd.mk rfl) (Opd.mk rfl)) rfl ?_
              refine St.nil ?_
              refine St.then_normal ?_
              refine St.cond _ rfl (fun h120 => ?_) (fun h120 => ?_)
              · skip
                try simp only [Bool.and_true, Bool.true_and, decide_eq_true_eq, decide_eq_false_iff_not, Bool.and_eq_true, Bool.or_eq_true, Bool.and_eq_false_iff, Bool.or_eq_false_iff, Bool.not_eq_true', Bool.not_eq_false', beq_iff_eq, beq_eq_false_iff_ne, Int.not_lt, Int.not_le] at h120
                refine St.exit ?_
                refine St.in_miss rfl ?_
                refine St.then_exit ?_
                refine St.in_hit ?_
                refine St.then_normal ?_
                refine St.met (x.1 - 1) (divI_break hv1 hv2 hu1 ht1 hphi hc (by omega)) (by repeat (first | exact Sub.nil | refine Sub.cons (by first | rfl | exact congrArg (fun z => some (iv z)) (by first | omega | (dsimp only; omega)) | exact congrArg (fun z => some (Value.bool z)) (by first | assumption | exact Eq.symm (by assumption))) ?_)) (fun _ hw => hw.sub)
              · skip
                try simp only [Bool.and_true, Bool.true_and, decide_eq_true_eq, decide_eq_false_iff_not, Bool.and_eq_true, Bool.or_eq_true, Bool.and_eq_false_iff, Bool.or_eq_false_iff, Bool.not_eq_true', Bool.not_eq_false', beq_iff_eq, beq_eq_false_iff_ne, Int.not_lt, Int.not_le] at h120
                refine St.skip ?_
                refine St.in_normal ?_
                refine St.then_normal ?_
                refine St.againS (x.1 - 1, x.2 + v / 4294967296) (divI_next hv1 hv2 hu1 ht1 hphi hc (by omega)) (by first | omega | (dsimp only; omega)) (by repeat (first | exact Sub.nil | refine Sub.cons (by first | rfl | exact congrArg (fun z => some (iv z)) (by first | omega | (dsimp only; omega)) | exact congrArg (fun z => some (Value.bool z)) (by first | assumption | exact Eq.symm (by assumption))) ?_)) (fun _ hw => hw.sub)
            · skip
              simp only [Bool.and_true, Bool.true_and, decide_eq_true_eq, decide_eq_false_iff_not, Bool.and_eq_true, Bool.or_eq_true, Bool.and_eq_false_iff, Bool.or_eq_false_iff, Bool.not_eq_true', Bool.not_eq_false', beq_iff_eq, beq_eq_false_iff_ne, Int.not_lt, Int.not_le] at h113
              have hst := divI_stop hv1 hphi (divI_test_f (by omega))
              refine St.exit ?_
              refine St.then_exit ?_
              refine St.then_exit ?_
              refine St.in_hit ?_
              refine St.then_normal ?_
              refine St.met x.1 hst (by repeat (first | exact Sub.nil | refine Sub.cons (by first | rfl | exact congrArg (fun z => some (iv z)) (by first | omega | (dsimp only; omega)) | exact congrArg (fun z => some (Value.bool z)) (by first | assumption | exact Eq.symm (by assumption))) ?_)) (fun _ hw => hw.sub)
          · skip
            intro Q1 hphi
            refine St.seq ?_
            refine St.rg ?_
            refine St.ev _ (Ev.move (Opd.mk rfl)) rfl ?_
            refine St.ev _ (Ev.mulUr (b := 4294967296) (Opd.mk rfl) (Opd.mk rfl)) rfl ?_
            refine St.ev _ (Ev.move (Opd.mk rfl)) rfl ?_
            refine St.ev _ (Ev.addU (Opd.mk rfl) (Opd.mk rfl)) rfl ?_
            refine St.ev _ (Ev.move (Opd.mk rfl)) rfl ?_
            refine St.ev _ (Ev.mulUr (b := 4294967296) (Opd.mk rfl) (Opd.mk rfl)) rfl ?_
            refine St.ev _ (Ev.move (Opd.mk rfl)) rfl ?_
            refine St.ev _ (Ev.addU (Opd.mk rfl) (Opd.mk rfl)) rfl ?_
            refine St.ev _ (Ev.move (Opd.mk rfl)) rfl ?_
            refine St.ev _ (Ev.move (Opd.mk rfl)) rfl ?_
            refine St.ev _ (Ev.mulU (Opd.mk rfl) (Opd.mk rfl)) rfl ?_
            refine St.ev _ (Ev.subU (Opd.mk rfl) (Opd.mk rfl) (by omega)) rfl ?_
            obtain ⟨r0, hr0⟩ : ∃ r, r = (4294967296 * r1 + z % 4294967296) % v := ⟨_, rfl⟩
            have hu2 : r0 < v := by rw [hr0]; exact Nat.mod_lt _ (by omega)
            have hE0 : Q1 * v + r0 = 4294967296 * r1 + z % 4294967296 := by rw [hphi, hr0, Nat.mul_comm]; exact Nat.div_add_mod _ _
            refine St.slot 132 (uv r0) rfl (by rw [div_rest hE0 hu2 hv2]) ?_
            obtain ⟨f1, f2⟩ := div_final (show 0 < y by omega) hv hN hE1 hE0 hu2
            have f3 : (18446744073709551616 * hi + lo) / y < 18446744073709551616 := by rw [Nat.div_lt_iff_lt_mul (by omega)]; omega
            refine St.ev _ (Ev.move (Opd.mk rfl)) rfl ?_
            refine St.ev _ (Ev.shrU (s) (2 ^ s) rfl (Opd.mk rfl) (Opd.mk rfl) (by omega)) rfl ?_
            refine St.ev _ (Ev.assign (Opd.mk rfl)) rfl ?_
            refine St.ev _ (Ev.assign (Opd.mk rfl)) rfl ?_
            refine St.nil ?_
            refine St.then_normal ?_
            refine St.rett ?_
            refine St.rets [_, _] [] Tryd.results37 ⟨rfl, ⟨rfl, trivial⟩⟩ ?_ (fun _ hw => hw.sub)
            exact uve (by omega) f2.symm

end Go.Proofs.YteahhholjojfbaaDoor
