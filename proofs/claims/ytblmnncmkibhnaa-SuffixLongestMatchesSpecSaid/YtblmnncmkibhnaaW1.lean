/-
  The walks of the checks, of the comparisons and of the inner functions of the sort of suffixes.
  Conditions: the numbers stand below the length of the list.
-/
import Derived.Test.YtblmnncmkibhnaaChecked
import Derived.Test.YtblmnncmkibhnaaJ13
import Derived.Test.YtblmnncmkibhnaaJ15
import Derived.Test.YtblmnncmkibhnaaFacts
set_option linter.unusedSimpArgs false
set_option linter.unusedVariables false
namespace Go.Proofs.Ytblmnncmkibhnaa
open Go Go.J

def sfFrom : Int → List Int → Int × Int
  | _, [] => (0, 0)
  | k, x :: l => if x < 0 ∨ 1114111 < x then (3, k) else sfFrom (k + 1) l
def sFault (p : List Int) : Int × Int := if 2000 < p.length then (2, -1) else sfFrom 0 p
theorem sf_step {l : List Int} {k : Nat} {x : Int} (h : l[k]? = some x) : sfFrom k (l.drop k) = if x < 0 ∨ 1114111 < x then (3, (k : Int)) else sfFrom ((k + 1 : Nat) : Int) (l.drop (k + 1)) := by
  rw [drop_of_some h, sfFrom, Int.natCast_add]; rfl
theorem sf_end {l : List Int} {k : Nat} (h : l.length ≤ k) (k' : Int) : sfFrom k' (l.drop k) = (0, 0) := by rw [List.drop_of_length_le h]; rfl
theorem sFault_big {p : List Int} (h : 2000 < p.length) : sFault p = (2, -1) := by unfold sFault; rw [if_pos h]
theorem sFault_from {p : List Int} (h : ¬ 2000 < p.length) : sFault p = sfFrom ((0 : Nat) : Int) (p.drop 0) := by unfold sFault; rw [if_neg h]; rfl
theorem sf_code {k : Int} {l : List Int} : (sfFrom k l).1 = 0 → sfFrom k l = (0, 0) := by
  induction l generalizing k with
  | nil => intro _; rfl
  | cons x l ih =>
    intro h
    unfold sfFrom at h ⊢
    split
    · rename_i h1; rw [if_pos h1] at h; cases h
    · rename_i h1; rw [if_neg h1] at h; exact ih h
theorem sFault_ok {p : List Int} (h : (sFault p).1 = 0) : p.length ≤ 2000 ∧ sFault p = (0, 0) := by
  unfold sFault at h ⊢
  by_cases h1 : 2000 < p.length
  · rw [if_pos h1] at h; cases h
  · rw [if_neg h1] at h ⊢; exact ⟨by omega, sf_code h⟩
def orL : List Int → Int
  | [] => 0
  | x :: l => if x ≠ 0 then x else orL l
theorem or_step {l : List Int} {k : Nat} {x : Int} (h : l[k]? = some x) : orL (l.drop k) = if x ≠ 0 then x else orL (l.drop (k + 1)) := by rw [drop_of_some h, orL]

theorem check_spec (v0 : Value) (p : List Int) : FnV Try.prog 25 #[v0] [sl intR v0 p] (fv (sFault p)) := by
  refine FnV.body1 (args := [v0]) 26 Try.func25 rfl Try.ntmps25 rfl (fun c => ?_)
  refine St.seq ?_
  refine St.wf v0 (fun hwf hlen => ?_)
  refine St.rg ?_
  refine St.alloc zc25 rfl (fun b2 => ?_)
  refine St.nil ?_
  refine St.then_normal ?_
  refine St.seq ?_
  refine St.seq ?_
  refine St.rg ?_
  refine St.ev _ (Ev.move (Opd.mk rfl)) rfl ?_
  refine St.ev _ (Ev.lensl (Opd.mk rfl) Try.underlying22) rfl ?_
  refine St.ev _ (Ev.gtr (Opd.mk rfl) (Opd.mk rfl)) rfl ?_
  refine St.nil ?_
  refine St.then_normal ?_
  refine St.cond _ rfl (fun h7 => ?_) (fun h7 => ?_)
  · skip
    try simp only [Bool.and_true, Bool.true_and, decide_eq_true_eq, decide_eq_false_iff_not, Bool.and_eq_true, Bool.or_eq_true, Bool.and_eq_false_iff, Bool.or_eq_false_iff, Bool.not_eq_true', Bool.not_eq_false', beq_iff_eq, beq_eq_false_iff_ne, Int.not_lt, Int.not_le] at h7
    refine St.seq ?_
    refine St.rg ?_
    refine St.ev _ (Ev.build (ps := [(0, (Operand.const (Value.int IntKind.i64 2))), (1, (Operand.const (Value.int IntKind.i64 (-1))))]) (Opds.cons (Opd.mk rfl) (Opds.cons (Opd.mk rfl) Opds.nil)) (fun w => bld25_0_1 rfl rfl w)) rfl ?_
    refine St.storeA (Opd.mk rfl) (Opd.mk rfl) sz25 (by first | simp only [List.length_cons, List.length_nil] | rfl) rfl ?_
    refine St.nil ?_
    refine St.then_normal ?_
    refine St.rett ?_
    refine St.then_ret ?_
    refine St.rets [_] [] Try.results25 ⟨⟨_, _, _, _, rfl, InB.mem, .inl ⟨⟨_, Try.underlying25⟩, sz25, rfl⟩⟩, trivial⟩ ?_ (fun _ hw => hw.sub)
    exact fe (sFault_big (by omega))
  · skip
    try simp only [Bool.and_true, Bool.true_and, decide_eq_true_eq, decide_eq_false_iff_not, Bool.and_eq_true, Bool.or_eq_true, Bool.and_eq_false_iff, Bool.or_eq_false_iff, Bool.not_eq_true', Bool.not_eq_false', beq_iff_eq, beq_eq_false_iff_ne, Int.not_lt, Int.not_le] at h7
    refine St.skip ?_
    refine St.then_normal ?_
    refine St.seq ?_
    refine St.seq ?_
    refine St.rg ?_
    refine St.ev _ (Ev.move (Opd.mk rfl)) rfl ?_
    refine St.ev _ (Ev.lensl (Opd.mk rfl) Try.underlying22) rfl ?_
    refine St.ev _ (Ev.move (Opd.mk rfl)) rfl ?_
    refine St.nil ?_
    refine St.then_normal ?_
    refine St.block ?_
    refine St.loopS (ι := Nat) (fun k T => (11, iv k) :: T) (fun k => k ≤ p.length ∧ sFault p = sfFrom k (p.drop k)) (fun k => p.length - k) 0 (Keep.cons 2 rfl (Keep.cons 9 rfl (Keep.cons 10 rfl Keep.nil))) ⟨Nat.zero_le _, sFault_from (by omega)⟩ (by repeat (first | exact Sub.nil | refine Sub.cons (by first | rfl | exact congrArg (fun z => some (iv z)) (by first | omega | (dsimp only; omega)) | exact congrArg (fun z => some (Value.bool z)) (by first | assumption | exact Eq.symm (by assumption))) ?_)) ?_
    intro k hphi
    obtain ⟨hk, hv⟩ := hphi
    refine St.seq ?_
    refine St.rg ?_
    refine St.ev _ (Ev.lss (Opd.mk rfl) (Opd.mk rfl)) rfl ?_
    refine St.nil ?_
    refine St.then_normal ?_
    refine St.seq ?_
    refine St.cond _ rfl (fun h12 => ?_) (fun h12 => ?_)
    · skip
      try simp only [Bool.and_true, Bool.true_and, decide_eq_true_eq, decide_eq_false_iff_not, Bool.and_eq_true, Bool.or_eq_true, Bool.and_eq_false_iff, Bool.or_eq_false_iff, Bool.not_eq_true', Bool.not_eq_false', beq_iff_eq, beq_eq_false_iff_ne, Int.not_lt, Int.not_le] at h12
      obtain ⟨x, hx⟩ := some_of_lt (show k < p.length by omega)
      refine St.skip ?_
      refine St.then_normal ?_
      refine St.seq ?_
      refine St.block ?_
      refine St.seq ?_
      refine St.rg ?_
      refine St.ev _ (Ev.move (Opd.mk rfl)) rfl ?_
      refine St.ev _ (Ev.idxaddr  (Opd.mk rfl) (Opd.mk rfl) Try.underlying22 sz3 rfl (by omega)) rfl ?_
      refine St.ev _ (Ev.ld1 (Opd.mk rfl) (by first | assumption | exact some_getD 0 (by omega)) Try.underlying3 trivial rfl) rfl ?_
      refine St.ev _ (Ev.assign (Opd.mk rfl)) rfl ?_
      refine St.ev _ (Ev.assign (Opd.mk rfl)) rfl ?_
      refine St.nil ?_
      refine St.then_normal ?_
      refine St.seq ?_
      refine St.rg ?_
      refine St.ev _ (Ev.move (Opd.mk rfl)) rfl ?_
      refine St.ev _ (Ev.lss (Opd.mk rfl) (Opd.mk rfl)) rfl ?_
      refine St.ev _ (Ev.move (Opd.mk rfl)) rfl ?_
      refine St.gf _ rfl rfl (fun hg => Ev.move (Opd.mk rfl)) rfl ?_
      refine St.gf _ rfl rfl (fun hg => Ev.gtr (Opd.gv rfl hg) (Opd.mk rfl)) rfl ?_
      refine St.ev _ (Ev.or (Opd.mk rfl) (fun hp => Opd.gv rfl hp)) rfl ?_
      refine St.nil ?_
      refine St.then_normal ?_
      refine St.cond _ rfl (fun h21 => ?_) (fun h21 => ?_)
      · skip
        try simp only [Bool.and_true, Bool.true_and, decide_eq_true_eq, decide_eq_false_iff_not, Bool.and_eq_true, Bool.or_eq_true, Bool.and_eq_false_iff, Bool.or_eq_false_iff, Bool.not_eq_true', Bool.not_eq_false', beq_iff_eq, beq_eq_false_iff_ne, Int.not_lt, Int.not_le] at h21
        refine St.seq ?_
        refine St.rg ?_
        refine St.ev _ (Ev.move (Opd.mk rfl)) rfl ?_
        refine St.ev _ (Ev.build (ps := [(0, (Operand.const (Value.int IntKind.i64 3))), (1, (Operand.tmp 22))]) (Opds.cons (Opd.mk rfl) (Opds.cons (Opd.mk rfl) Opds.nil)) (fun w => bld25_0_1 rfl rfl w)) rfl ?_
        refine St.storeA (Opd.mk rfl) (Opd.mk rfl) sz25 (by first | simp only [List.length_cons, List.length_nil] | rfl) rfl ?_
        refine St.nil ?_
        refine St.then_normal ?_
        refine St.rett ?_
        refine St.in_ret ?_
        refine St.then_ret ?_
        refine St.then_ret ?_
        refine St.in_ret ?_
        refine St.then_ret ?_
        refine St.rets [_] [] Try.results25 ⟨⟨_, _, _, _, rfl, InB.mem, .inl ⟨⟨_, Try.underlying25⟩, sz25, rfl⟩⟩, trivial⟩ ?_ (fun _ hw => hw.sub)
        exact fe (by rw [hv, sf_step hx, if_pos (by omega)])
      · skip
        try simp only [Bool.and_true, Bool.true_and, decide_eq_true_eq, decide_eq_false_iff_not, Bool.and_eq_true, Bool.or_eq_true, Bool.and_eq_false_iff, Bool.or_eq_false_iff, Bool.not_eq_true', Bool.not_eq_false', beq_iff_eq, beq_eq_false_iff_ne, Int.not_lt, Int.not_le] at h21
        refine St.skip ?_
        refine St.in_normal ?_
        refine St.then_normal ?_
        refine St.rg ?_
        refine St.ev _ (Ev.add (Opd.mk rfl) (Opd.mk rfl) (by omega)) rfl ?_
        refine St.ev _ (Ev.move (Opd.mk rfl)) rfl ?_
        refine St.nil ?_
        refine St.then_normal ?_
        refine St.againS (k + 1) ⟨by omega, by rw [hv, sf_step hx, if_neg (by omega)]⟩ (by first | omega | (dsimp only; omega)) (by repeat (first | exact Sub.nil | refine Sub.cons (by first | rfl | exact congrArg (fun z => some (iv z)) (by first | omega | (dsimp only; omega)) | exact congrArg (fun z => some (Value.bool z)) (by first | assumption | exact Eq.symm (by assumption))) ?_)) (fun _ hw => hw.sub)
    · skip
      try simp only [Bool.and_true, Bool.true_and, decide_eq_true_eq, decide_eq_false_iff_not, Bool.and_eq_true, Bool.or_eq_true, Bool.and_eq_false_iff, Bool.or_eq_false_iff, Bool.not_eq_true', Bool.not_eq_false', beq_iff_eq, beq_eq_false_iff_ne, Int.not_lt, Int.not_le] at h12
      refine St.exit ?_
      refine St.then_exit ?_
      refine St.then_exit ?_
      refine St.in_hit ?_
      refine St.then_normal ?_
      refine St.seq ?_
      refine St.rg ?_
      refine St.ev _ (Ev.build (ps := []) (Opds.nil) (fun w => bld25_  w)) rfl ?_
      refine St.storeA (Opd.mk rfl) (Opd.mk rfl) sz25 (by first | simp only [List.length_cons, List.length_nil] | rfl) rfl ?_
      refine St.nil ?_
      refine St.then_normal ?_
      refine St.rett ?_
      refine St.rets [_] [] Try.results25 ⟨⟨_, _, _, _, rfl, InB.mem, .inl ⟨⟨_, Try.underlying25⟩, sz25, rfl⟩⟩, trivial⟩ ?_ (fun _ hw => hw.sub)
      exact fe (by rw [hv, sf_end (by omega)])

theorem SuffixFault_spec (v0 : Value) (p : List Int) : FnV Try.prog 13 #[v0] [sl intR v0 p] (fv (sFault p)) := by
  refine FnV.body1 (args := [v0]) 29 Try.func13 rfl Try.ntmps13 rfl (fun c => ?_)
  refine St.seq ?_
  refine St.wf v0 (fun hwf hlen => ?_)
  refine St.rg ?_
  refine St.alloc zc25 rfl (fun b2 => ?_)
  refine St.nil ?_
  refine St.then_normal ?_
  refine St.seq ?_
  refine St.seq ?_
  refine St.rg ?_
  refine St.ev _ (Ev.move (Opd.mk rfl)) rfl ?_
  refine St.ev _ (Ev.lensl (Opd.mk rfl) Try.underlying22) rfl ?_
  refine St.ev _ (Ev.gtr (Opd.mk rfl) (Opd.mk rfl)) rfl ?_
  refine St.nil ?_
  refine St.then_normal ?_
  refine St.cond _ rfl (fun h6 => ?_) (fun h6 => ?_)
  · skip
    try simp only [Bool.and_true, Bool.true_and, decide_eq_true_eq, decide_eq_false_iff_not, Bool.and_eq_true, Bool.or_eq_true, Bool.and_eq_false_iff, Bool.or_eq_false_iff, Bool.not_eq_true', Bool.not_eq_false', beq_iff_eq, beq_eq_false_iff_ne, Int.not_lt, Int.not_le] at h6
    refine St.seq ?_
    refine St.rg ?_
    refine St.ev _ (Ev.build (ps := [(0, (Operand.const (Value.int IntKind.i64 2))), (1, (Operand.const (Value.int IntKind.i64 (-1))))]) (Opds.cons (Opd.mk rfl) (Opds.cons (Opd.mk rfl) Opds.nil)) (fun w => bld25_0_1 rfl rfl w)) rfl ?_
    refine St.storeA (Opd.mk rfl) (Opd.mk rfl) sz25 (by first | simp only [List.length_cons, List.length_nil] | rfl) rfl ?_
    refine St.nil ?_
    refine St.then_normal ?_
    refine St.rett ?_
    refine St.then_ret ?_
    refine St.rets [_] [] Try.results13 ⟨⟨_, _, _, _, rfl, InB.mem, .inl ⟨⟨_, Try.underlying25⟩, sz25, rfl⟩⟩, trivial⟩ ?_ (fun _ hw => hw.sub)
    exact fe (sFault_big (by omega))
  · skip
    try simp only [Bool.and_true, Bool.true_and, decide_eq_true_eq, decide_eq_false_iff_not, Bool.and_eq_true, Bool.or_eq_true, Bool.and_eq_false_iff, Bool.or_eq_false_iff, Bool.not_eq_true', Bool.not_eq_false', beq_iff_eq, beq_eq_false_iff_ne, Int.not_lt, Int.not_le] at h6
    refine St.skip ?_
    refine St.then_normal ?_
    refine St.seq ?_
    refine St.seq ?_
    refine St.rg ?_
    refine St.ev _ (Ev.assign (Opd.mk rfl)) rfl ?_
    refine St.nil ?_
    refine St.then_normal ?_
    refine St.block ?_
    refine St.loopS (ι := Nat) (fun k T => (3, iv k) :: T) (fun k => k ≤ p.length ∧ sFault p = sfFrom k (p.drop k)) (fun k => p.length - k) 0 (Keep.cons 0 rfl (Keep.cons 2 rfl Keep.nil)) ⟨Nat.zero_le _, sFault_from (by omega)⟩ (by repeat (first | exact Sub.nil | refine Sub.cons (by first | rfl | exact congrArg (fun z => some (iv z)) (by first | omega | (dsimp only; omega)) | exact congrArg (fun z => some (Value.bool z)) (by first | assumption | exact Eq.symm (by assumption))) ?_)) ?_
    intro k hphi
    obtain ⟨hk, hv⟩ := hphi
    refine St.seq ?_
    refine St.seq ?_
    refine St.rg ?_
    refine St.ev _ (Ev.move (Opd.mk rfl)) rfl ?_
    refine St.ev _ (Ev.move (Opd.mk rfl)) rfl ?_
    refine St.ev _ (Ev.lensl (Opd.mk rfl) Try.underlying22) rfl ?_
    refine St.ev _ (Ev.lss (Opd.mk rfl) (Opd.mk rfl)) rfl ?_
    refine St.nil ?_
    refine St.then_normal ?_
    refine St.cond _ rfl (fun h11 => ?_) (fun h11 => ?_)
    · skip
      try simp only [Bool.and_true, Bool.true_and, decide_eq_true_eq, decide_eq_false_iff_not, Bool.and_eq_true, Bool.or_eq_true, Bool.and_eq_false_iff, Bool.or_eq_false_iff, Bool.not_eq_true', Bool.not_eq_false', beq_iff_eq, beq_eq_false_iff_ne, Int.not_lt, Int.not_le] at h11
      obtain ⟨x, hx⟩ := some_of_lt (show k < p.length by omega)
      refine St.skip ?_
      refine St.then_normal ?_
      refine St.seq ?_
      refine St.block ?_
      refine St.seq ?_
      refine St.rg ?_
      refine St.ev _ (Ev.move (Opd.mk rfl)) rfl ?_
      refine St.ev _ (Ev.move (Opd.mk rfl)) rfl ?_
      refine St.ev _ (Ev.idxaddr (k := k) (Opd.mk rfl) (Opd.mk rfl) Try.underlying22 sz3 (by omega) (by omega)) rfl ?_
      refine St.ev _ (Ev.ld1 (Opd.mk rfl) hx Try.underlying3 trivial rfl) rfl ?_
      refine St.ev _ (Ev.lss (Opd.mk rfl) (Opd.mk rfl)) rfl ?_
      refine St.ev _ (Ev.move (Opd.mk rfl)) rfl ?_
      refine St.gf _ rfl rfl (fun hg => Ev.move (Opd.mk rfl)) rfl ?_
      refine St.gf _ rfl rfl (fun hg => Ev.move (Opd.mk rfl)) rfl ?_
      refine St.gf _ rfl rfl (fun hg => Ev.idxaddr (k := k) (Opd.gv rfl hg) (Opd.gv rfl hg) Try.underlying22 sz3 (by first | omega | (simp only [Bool.and_true, Bool.true_and, decide_eq_true_eq, decide_eq_false_iff_not, Bool.and_eq_true, Bool.or_eq_true, Bool.and_eq_false_iff, Bool.or_eq_false_iff, Bool.not_eq_true', Bool.not_eq_false', beq_iff_eq, beq_eq_false_iff_ne, Int.not_lt, Int.not_le] at hg; omega)) (by first | omega | (simp only [Bool.and_true, Bool.true_and, decide_eq_true_eq, decide_eq_false_iff_not, Bool.and_eq_true, Bool.or_eq_true, Bool.and_eq_false_iff, Bool.or_eq_false_iff, Bool.not_eq_true', Bool.not_eq_false', beq_iff_eq, beq_eq_false_iff_ne, Int.not_lt, Int.not_le] at hg; omega))) rfl ?_
      refine St.gf _ rfl rfl (fun hg => Ev.ld1 (Opd.gv rfl hg) hx Try.underlying3 trivial rfl) rfl ?_
      refine St.gf _ rfl rfl (fun hg => Ev.gtr (Opd.gv rfl hg) (Opd.mk rfl)) rfl ?_
      refine St.ev _ (Ev.or (Opd.mk rfl) (fun hp => Opd.gv rfl hp)) rfl ?_
      refine St.nil ?_
      refine St.then_normal ?_
      refine St.cond _ rfl (fun h25 => ?_) (fun h25 => ?_)
      · skip
        try simp only [Bool.and_true, Bool.true_and, decide_eq_true_eq, decide_eq_false_iff_not, Bool.and_eq_true, Bool.or_eq_true, Bool.and_eq_false_iff, Bool.or_eq_false_iff, Bool.not_eq_true', Bool.not_eq_false', beq_iff_eq, beq_eq_false_iff_ne, Int.not_lt, Int.not_le] at h25
        refine St.seq ?_
        refine St.rg ?_
        refine St.ev _ (Ev.move (Opd.mk rfl)) rfl ?_
        refine St.ev _ (Ev.build (ps := [(0, (Operand.const (Value.int IntKind.i64 3))), (1, (Operand.tmp 26))]) (Opds.cons (Opd.mk rfl) (Opds.cons (Opd.mk rfl) Opds.nil)) (fun w => bld25_0_1 rfl rfl w)) rfl ?_
        refine St.storeA (Opd.mk rfl) (Opd.mk rfl) sz25 (by first | simp only [List.length_cons, List.length_nil] | rfl) rfl ?_
        refine St.nil ?_
        refine St.then_normal ?_
        refine St.rett ?_
        refine St.in_ret ?_
        refine St.then_ret ?_
        refine St.then_ret ?_
        refine St.in_ret ?_
        refine St.then_ret ?_
        refine St.rets [_] [] Try.results13 ⟨⟨_, _, _, _, rfl, InB.mem, .inl ⟨⟨_, Try.underlying25⟩, sz25, rfl⟩⟩, trivial⟩ ?_ (fun _ hw => hw.sub)
        exact fe (by rw [hv, sf_step hx, if_pos (by omega)])
      · skip
        try simp only [Bool.and_true, Bool.true_and, decide_eq_true_eq, decide_eq_false_iff_not, Bool.and_eq_true, Bool.or_eq_true, Bool.and_eq_false_iff, Bool.or_eq_false_iff, Bool.not_eq_true', Bool.not_eq_false', beq_iff_eq, beq_eq_false_iff_ne, Int.not_lt, Int.not_le] at h25
        refine St.skip ?_
        refine St.in_normal ?_
        refine St.then_normal ?_
        refine St.rg ?_
        refine St.ev _ (Ev.move (Opd.mk rfl)) rfl ?_
        refine St.ev _ (Ev.add (Opd.mk rfl) (Opd.mk rfl) (by omega)) rfl ?_
        refine St.ev _ (Ev.assign (Opd.mk rfl)) rfl ?_
        refine St.nil ?_
        refine St.then_normal ?_
        refine St.againS (k + 1) ⟨by omega, by rw [hv, sf_step hx, if_neg (by omega)]⟩ (by first | omega | (dsimp only; omega)) (by repeat (first | exact Sub.nil | refine Sub.cons (by first | rfl | exact congrArg (fun z => some (iv z)) (by first | omega | (dsimp only; omega)) | exact congrArg (fun z => some (Value.bool z)) (by first | assumption | exact Eq.symm (by assumption))) ?_)) (fun _ hw => hw.sub)
    · skip
      try simp only [Bool.and_true, Bool.true_and, decide_eq_true_eq, decide_eq_false_iff_not, Bool.and_eq_true, Bool.or_eq_true, Bool.and_eq_false_iff, Bool.or_eq_false_iff, Bool.not_eq_true', Bool.not_eq_false', beq_iff_eq, beq_eq_false_iff_ne, Int.not_lt, Int.not_le] at h11
      refine St.exit ?_
      refine St.then_exit ?_
      refine St.then_exit ?_
      refine St.in_hit ?_
      refine St.then_normal ?_
      refine St.seq ?_
      refine St.rg ?_
      refine St.ev _ (Ev.build (ps := []) (Opds.nil) (fun w => bld25_  w)) rfl ?_
      refine St.storeA (Opd.mk rfl) (Opd.mk rfl) sz25 (by first | simp only [List.length_cons, List.length_nil] | rfl) rfl ?_
      refine St.nil ?_
      refine St.then_normal ?_
      refine St.rett ?_
      refine St.rets [_] [] Try.results13 ⟨⟨_, _, _, _, rfl, InB.mem, .inl ⟨⟨_, Try.underlying25⟩, sz25, rfl⟩⟩, trivial⟩ ?_ (fun _ hw => hw.sub)
      exact fe (by rw [hv, sf_end (by omega)])

theorem isNaN_spec (x : Int) : FnV Try.prog 50 #[iv x] [] (.bool false) := by
  refine FnV.body0 (args := [iv x]) 6 Try.func50 rfl Try.ntmps50 rfl (fun c => ?_)
  refine St.seq ?_
  refine St.rg ?_
  refine St.ev _ (Ev.assign (Opd.mk rfl)) rfl ?_
  refine St.nil ?_
  refine St.then_normal ?_
  refine St.seq ?_
  refine St.rg ?_
  refine St.ev _ (Ev.move (Opd.mk rfl)) rfl ?_
  refine St.ev _ (Ev.move (Opd.mk rfl)) rfl ?_
  refine St.ev _ (Ev.neq (Opd.mk rfl) (Opd.mk rfl)) rfl ?_
  refine St.ev _ (Ev.assign (Opd.mk rfl)) rfl ?_
  refine St.nil ?_
  refine St.then_normal ?_
  refine St.rett ?_
  refine St.rets [_] [] Try.results50 ⟨rfl, trivial⟩ ?_ (fun _ hw => hw.sub)
  exact be (by simp)

theorem Compare_spec (x y : Int) : FnV Try.prog 40 #[iv x, iv y] [] (iv (sgn x y)) := by
  refine FnV.body0 (args := [iv x, iv y]) 20 Try.func40 rfl Try.ntmps40 rfl (fun c => ?_)
  refine St.seq ?_
  refine St.rg ?_
  refine St.ev _ (Ev.assign (Opd.mk rfl)) rfl ?_
  refine St.nil ?_
  refine St.then_normal ?_
  refine St.seq ?_
  refine St.rg ?_
  refine St.ev _ (Ev.move (Opd.mk rfl)) rfl ?_
  refine St.ev _ (Ev.call (isNaN_spec x) cb50 (Opds.cons (Opd.mk rfl) Opds.nil)) rfl ?_
  refine St.ev _ (Ev.assign (Opd.mk rfl)) rfl ?_
  refine St.nil ?_
  refine St.then_normal ?_
  refine St.seq ?_
  refine St.rg ?_
  refine St.ev _ (Ev.move (Opd.mk rfl)) rfl ?_
  refine St.ev _ (Ev.call (isNaN_spec y) cb50 (Opds.cons (Opd.mk rfl) Opds.nil)) rfl ?_
  refine St.ev _ (Ev.assign (Opd.mk rfl)) rfl ?_
  refine St.nil ?_
  refine St.then_normal ?_
  refine St.seq ?_
  refine St.seq ?_
  refine St.rg ?_
  refine St.ev _ (Ev.move (Opd.mk rfl)) rfl ?_
  refine St.nil ?_
  refine St.then_normal ?_
  refine St.condf _ rfl rfl ?_
  refine St.skip ?_
  refine St.then_normal ?_
  refine St.seq ?_
  refine St.seq ?_
  refine St.rg ?_
  refine St.ev _ (Ev.move (Opd.mk rfl)) rfl ?_
  refine St.nil ?_
  refine St.then_normal ?_
  refine St.condf _ rfl rfl ?_
  refine St.skip ?_
  refine St.then_normal ?_
  refine St.seq ?_
  refine St.seq ?_
  refine St.rg ?_
  refine St.ev _ (Ev.move (Opd.mk rfl)) rfl ?_
  refine St.ev _ (Ev.move (Opd.mk rfl)) rfl ?_
  refine St.ev _ (Ev.lss (Opd.mk rfl) (Opd.mk rfl)) rfl ?_
  refine St.nil ?_
  refine St.then_normal ?_
  refine St.cond _ rfl (fun h16 => ?_) (fun h16 => ?_)
  · skip
    try simp only [Bool.and_true, Bool.true_and, decide_eq_true_eq, decide_eq_false_iff_not, Bool.and_eq_true, Bool.or_eq_true, Bool.and_eq_false_iff, Bool.or_eq_false_iff, Bool.not_eq_true', Bool.not_eq_false', beq_iff_eq, beq_eq_false_iff_ne, Int.not_lt, Int.not_le] at h16
    refine St.seq ?_
    refine St.rg ?_
    refine St.ev _ (Ev.assign (Opd.mk rfl)) rfl ?_
    refine St.nil ?_
    refine St.then_normal ?_
    refine St.rett ?_
    refine St.then_ret ?_
    refine St.rets [_] [] Try.results40 ⟨rfl, trivial⟩ ?_ (fun _ hw => hw.sub)
    exact ie (by unfold sgn; rw [if_pos h16])
  · skip
    try simp only [Bool.and_true, Bool.true_and, decide_eq_true_eq, decide_eq_false_iff_not, Bool.and_eq_true, Bool.or_eq_true, Bool.and_eq_false_iff, Bool.or_eq_false_iff, Bool.not_eq_true', Bool.not_eq_false', beq_iff_eq, beq_eq_false_iff_ne, Int.not_lt, Int.not_le] at h16
    refine St.skip ?_
    refine St.then_normal ?_
    refine St.seq ?_
    refine St.seq ?_
    refine St.rg ?_
    refine St.ev _ (Ev.move (Opd.mk rfl)) rfl ?_
    refine St.ev _ (Ev.move (Opd.mk rfl)) rfl ?_
    refine St.ev _ (Ev.gtr (Opd.mk rfl) (Opd.mk rfl)) rfl ?_
    refine St.nil ?_
    refine St.then_normal ?_
    refine St.cond _ rfl (fun h19 => ?_) (fun h19 => ?_)
    · skip
      try simp only [Bool.and_true, Bool.true_and, decide_eq_true_eq, decide_eq_false_iff_not, Bool.and_eq_true, Bool.or_eq_true, Bool.and_eq_false_iff, Bool.or_eq_false_iff, Bool.not_eq_true', Bool.not_eq_false', beq_iff_eq, beq_eq_false_iff_ne, Int.not_lt, Int.not_le] at h19
      refine St.seq ?_
      refine St.rg ?_
      refine St.ev _ (Ev.assign (Opd.mk rfl)) rfl ?_
      refine St.nil ?_
      refine St.then_normal ?_
      refine St.rett ?_
      refine St.then_ret ?_
      refine St.rets [_] [] Try.results40 ⟨rfl, trivial⟩ ?_ (fun _ hw => hw.sub)
      exact ie (by unfold sgn; rw [if_neg (by omega), if_pos h19])
    · skip
      try simp only [Bool.and_true, Bool.true_and, decide_eq_true_eq, decide_eq_false_iff_not, Bool.and_eq_true, Bool.or_eq_true, Bool.and_eq_false_iff, Bool.or_eq_false_iff, Bool.not_eq_true', Bool.not_eq_false', beq_iff_eq, beq_eq_false_iff_ne, Int.not_lt, Int.not_le] at h19
      refine St.skip ?_
      refine St.then_normal ?_
      refine St.seq ?_
      refine St.rg ?_
      refine St.ev _ (Ev.assign (Opd.mk rfl)) rfl ?_
      refine St.nil ?_
      refine St.then_normal ?_
      refine St.rett ?_
      refine St.rets [_] [] Try.results40 ⟨rfl, trivial⟩ ?_ (fun _ hw => hw.sub)
      exact ie (by unfold sgn; rw [if_neg (by omega), if_neg (by omega)])

theorem Or_spec (v0 : Value) (p : List Int) : FnV Try.prog 45 #[v0] [sl intR v0 p] (iv (orL p)) := by
  refine FnV.body1 (args := [v0]) 18 Try.func45 rfl Try.ntmps45 rfl (fun c => ?_)
  refine St.seq ?_
  refine St.wf v0 (fun hwf hlen => ?_)
  refine St.rg ?_
  refine St.ev _ (Ev.assign (Opd.mk rfl)) rfl ?_
  refine St.nil ?_
  refine St.then_normal ?_
  refine St.seq ?_
  refine St.rg ?_
  refine St.ev _ (Ev.assign (Opd.mk rfl)) rfl ?_
  refine St.nil ?_
  refine St.then_normal ?_
  refine St.seq ?_
  refine St.seq ?_
  refine St.rg ?_
  refine St.ev _ (Ev.move (Opd.mk rfl)) rfl ?_
  refine St.ev _ (Ev.lensl (Opd.mk rfl) Try.underlying22) rfl ?_
  refine St.ev _ (Ev.move (Opd.mk rfl)) rfl ?_
  refine St.nil ?_
  refine St.then_normal ?_
  refine St.block ?_
  refine St.loopS (ι := Nat) (fun k T => (8, iv k) :: T) (fun k => k ≤ p.length ∧ orL p = orL (p.drop k)) (fun k => p.length - k) 0 (Keep.cons 3 rfl (Keep.cons 6 rfl (Keep.cons 7 rfl Keep.nil))) ⟨Nat.zero_le _, rfl⟩ (by repeat (first | exact Sub.nil | refine Sub.cons (by first | rfl | exact congrArg (fun z => some (iv z)) (by first | omega | (dsimp only; omega)) | exact congrArg (fun z => some (Value.bool z)) (by first | assumption | exact Eq.symm (by assumption))) ?_)) ?_
  intro k hphi
  obtain ⟨hk, hv⟩ := hphi
  refine St.seq ?_
  refine St.rg ?_
  refine St.ev _ (Ev.lss (Opd.mk rfl) (Opd.mk rfl)) rfl ?_
  refine St.nil ?_
  refine St.then_normal ?_
  refine St.seq ?_
  refine St.cond _ rfl (fun h9 => ?_) (fun h9 => ?_)
  · skip
    try simp only [Bool.and_true, Bool.true_and, decide_eq_true_eq, decide_eq_false_iff_not, Bool.and_eq_true, Bool.or_eq_true, Bool.and_eq_false_iff, Bool.or_eq_false_iff, Bool.not_eq_true', Bool.not_eq_false', beq_iff_eq, beq_eq_false_iff_ne, Int.not_lt, Int.not_le] at h9
    obtain ⟨x, hx⟩ := some_of_lt (show k < p.length by omega)
    refine St.skip ?_
    refine St.then_normal ?_
    refine St.seq ?_
    refine St.block ?_
    refine St.seq ?_
    refine St.rg ?_
    refine St.ev _ (Ev.idxaddr  (Opd.mk rfl) (Opd.mk rfl) Try.underlying22 sz3 rfl (by omega)) rfl ?_
    refine St.ev _ (Ev.ld1 (Opd.mk rfl) (by first | assumption | exact some_getD 0 (by omega)) Try.underlying3 trivial rfl) rfl ?_
    refine St.ev _ (Ev.assign (Opd.mk rfl)) rfl ?_
    refine St.nil ?_
    refine St.then_normal ?_
    refine St.seq ?_
    refine St.rg ?_
    refine St.ev _ (Ev.move (Opd.mk rfl)) rfl ?_
    refine St.ev _ (Ev.move (Opd.mk rfl)) rfl ?_
    refine St.ev _ (Ev.neq (Opd.mk rfl) (Opd.mk rfl)) rfl ?_
    refine St.nil ?_
    refine St.then_normal ?_
    refine St.cond _ rfl (fun h14 => ?_) (fun h14 => ?_)
    · skip
      try simp only [Bool.and_true, Bool.true_and, decide_eq_true_eq, decide_eq_false_iff_not, Bool.and_eq_true, Bool.or_eq_true, Bool.and_eq_false_iff, Bool.or_eq_false_iff, Bool.not_eq_true', Bool.not_eq_false', beq_iff_eq, beq_eq_false_iff_ne, Int.not_lt, Int.not_le] at h14
      refine St.seq ?_
      refine St.rg ?_
      refine St.ev _ (Ev.move (Opd.mk rfl)) rfl ?_
      refine St.ev _ (Ev.assign (Opd.mk rfl)) rfl ?_
      refine St.nil ?_
      refine St.then_normal ?_
      refine St.rett ?_
      refine St.in_ret ?_
      refine St.then_ret ?_
      refine St.then_ret ?_
      refine St.in_ret ?_
      refine St.then_ret ?_
      refine St.rets [_] [] Try.results45 ⟨rfl, trivial⟩ ?_ (fun _ hw => hw.sub)
      exact ie (by rw [hv, or_step hx, if_pos h14])
    · skip
      try simp only [Bool.and_true, Bool.true_and, decide_eq_true_eq, decide_eq_false_iff_not, Bool.and_eq_true, Bool.or_eq_true, Bool.and_eq_false_iff, Bool.or_eq_false_iff, Bool.not_eq_true', Bool.not_eq_false', beq_iff_eq, beq_eq_false_iff_ne, Int.not_lt, Int.not_le] at h14
      refine St.skip ?_
      refine St.in_normal ?_
      refine St.then_normal ?_
      refine St.rg ?_
      refine St.ev _ (Ev.add (Opd.mk rfl) (Opd.mk rfl) (by omega)) rfl ?_
      refine St.ev _ (Ev.move (Opd.mk rfl)) rfl ?_
      refine St.nil ?_
      refine St.then_normal ?_
      refine St.againS (k + 1) ⟨by omega, by rw [hv, or_step hx, if_neg (by omega)]⟩ (by first | omega | (dsimp only; omega)) (by repeat (first | exact Sub.nil | refine Sub.cons (by first | rfl | exact congrArg (fun z => some (iv z)) (by first | omega | (dsimp only; omega)) | exact congrArg (fun z => some (Value.bool z)) (by first | assumption | exact Eq.symm (by assumption))) ?_)) (fun _ hw => hw.sub)
  · skip
    try simp only [Bool.and_true, Bool.true_and, decide_eq_true_eq, decide_eq_false_iff_not, Bool.and_eq_true, Bool.or_eq_true, Bool.and_eq_false_iff, Bool.or_eq_false_iff, Bool.not_eq_true', Bool.not_eq_false', beq_iff_eq, beq_eq_false_iff_ne, Int.not_lt, Int.not_le] at h9
    refine St.exit ?_
    refine St.then_exit ?_
    refine St.then_exit ?_
    refine St.in_hit ?_
    refine St.then_normal ?_
    refine St.seq ?_
    refine St.rg ?_
    refine St.ev _ (Ev.move (Opd.mk rfl)) rfl ?_
    refine St.ev _ (Ev.assign (Opd.mk rfl)) rfl ?_
    refine St.nil ?_
    refine St.then_normal ?_
    refine St.rett ?_
    refine St.rets [_] [] Try.results45 ⟨rfl, trivial⟩ ?_ (fun _ hw => hw.sub)
    exact ie (by rw [hv, List.drop_of_length_le (by omega)]; rfl)

theorem IndexFunc_spec (v0 : Value) (xs : List Int) (fcl : FuncId) (hcb : Callable Try.prog fcl) (caps : List Value) (D : Dat) (pr : Int → Bool) (hcl : ∀ x ∈ xs, FnV Try.prog fcl ([iv x] ++ caps).toArray [D] (.bool (pr x))) :
    FnV Try.prog 51 #[v0, .func (.func fcl) #[] caps.toArray] [sl intR v0 xs, D] (iv (ix pr xs)) := by
  refine FnV.body2 (args := [v0, .func (.func fcl) #[] caps.toArray]) 19 Try.func51 rfl Try.ntmps51 rfl (fun c => ?_)
  refine St.seq ?_
  refine St.wf v0 (fun hwf hlen => ?_)
  refine St.rg ?_
  refine St.ev _ (Ev.assign (Opd.mk rfl)) rfl ?_
  refine St.nil ?_
  refine St.then_normal ?_
  refine St.seq ?_
  refine St.seq ?_
  refine St.rg ?_
  refine St.ev _ (Ev.move (Opd.mk rfl)) rfl ?_
  refine St.ev _ (Ev.lensl (Opd.mk rfl) Try.underlying22) rfl ?_
  refine St.ev _ (Ev.move (Opd.mk rfl)) rfl ?_
  refine St.nil ?_
  refine St.then_normal ?_
  refine St.block ?_
  refine St.loopS (ι := Nat) (fun k T => (8, iv k) :: T) (fun k => k ≤ xs.length ∧ (xs.take k).all (fun y => !pr y) = true) (fun k => xs.length - k) 0 (Keep.cons 0 rfl (Keep.cons 1 rfl (Keep.cons 7 rfl Keep.nil))) ⟨Nat.zero_le _, rfl⟩ (by repeat (first | exact Sub.nil | refine Sub.cons (by first | rfl | exact congrArg (fun z => some (iv z)) (by first | omega | (dsimp only; omega)) | exact congrArg (fun z => some (Value.bool z)) (by first | assumption | exact Eq.symm (by assumption))) ?_)) ?_
  intro k hphi
  obtain ⟨hk, hall⟩ := hphi
  refine St.seq ?_
  refine St.rg ?_
  refine St.ev _ (Ev.lss (Opd.mk rfl) (Opd.mk rfl)) rfl ?_
  refine St.nil ?_
  refine St.then_normal ?_
  refine St.seq ?_
  refine St.cond _ rfl (fun h9 => ?_) (fun h9 => ?_)
  · skip
    try simp only [Bool.and_true, Bool.true_and, decide_eq_true_eq, decide_eq_false_iff_not, Bool.and_eq_true, Bool.or_eq_true, Bool.and_eq_false_iff, Bool.or_eq_false_iff, Bool.not_eq_true', Bool.not_eq_false', beq_iff_eq, beq_eq_false_iff_ne, Int.not_lt, Int.not_le] at h9
    obtain ⟨x, hx⟩ := some_of_lt (show k < xs.length by omega)
    refine St.skip ?_
    refine St.then_normal ?_
    refine St.seq ?_
    refine St.block ?_
    refine St.seq ?_
    refine St.rg ?_
    refine St.ev _ (Ev.move (Opd.mk rfl)) rfl ?_
    refine St.ev _ (Ev.assign (Opd.mk rfl)) rfl ?_
    refine St.nil ?_
    refine St.then_normal ?_
    refine St.seq ?_
    refine St.rg ?_
    refine St.ev _ (Ev.move (Opd.mk rfl)) rfl ?_
    refine St.ev _ (Ev.move (Opd.mk rfl)) rfl ?_
    refine St.ev _ (Ev.move (Opd.mk rfl)) rfl ?_
    refine St.ev _ (Ev.idxaddr  (Opd.mk rfl) (Opd.mk rfl) Try.underlying22 sz3 rfl (by omega)) rfl ?_
    refine St.ev _ (Ev.ld1 (Opd.mk rfl) (by first | assumption | exact some_getD 0 (by omega)) Try.underlying3 trivial rfl) rfl ?_
    refine St.ev _ (Ev.callc (hcl x (List.mem_of_getElem? hx)) hcb (Opd.mk rfl) (Opds.cons (Opd.mk rfl) Opds.nil)) rfl ?_
    refine St.nil ?_
    refine St.then_normal ?_
    refine St.cond _ rfl (fun h16 => ?_) (fun h16 => ?_)
    · skip
      skip
      refine St.seq ?_
      refine St.rg ?_
      refine St.ev _ (Ev.move (Opd.mk rfl)) rfl ?_
      refine St.ev _ (Ev.assign (Opd.mk rfl)) rfl ?_
      refine St.nil ?_
      refine St.then_normal ?_
      refine St.rett ?_
      refine St.in_ret ?_
      refine St.then_ret ?_
      refine St.then_ret ?_
      refine St.in_ret ?_
      refine St.then_ret ?_
      refine St.rets [_] [] Try.results51 ⟨rfl, trivial⟩ ?_ (fun _ hw => hw.sub)
      exact ie (ix_found hall hx h16).symm
    · skip
      skip
      refine St.skip ?_
      refine St.in_normal ?_
      refine St.then_normal ?_
      refine St.rg ?_
      refine St.ev _ (Ev.add (Opd.mk rfl) (Opd.mk rfl) (by omega)) rfl ?_
      refine St.ev _ (Ev.move (Opd.mk rfl)) rfl ?_
      refine St.nil ?_
      refine St.then_normal ?_
      refine St.againS (k + 1) ⟨by omega, all_take_some hall hx (by simpa using h16)⟩ (by first | omega | (dsimp only; omega)) (by repeat (first | exact Sub.nil | refine Sub.cons (by first | rfl | exact congrArg (fun z => some (iv z)) (by first | omega | (dsimp only; omega)) | exact congrArg (fun z => some (Value.bool z)) (by first | assumption | exact Eq.symm (by assumption))) ?_)) (fun _ hw => hw.sub)
  · skip
    try simp only [Bool.and_true, Bool.true_and, decide_eq_true_eq, decide_eq_false_iff_not, Bool.and_eq_true, Bool.or_eq_true, Bool.and_eq_false_iff, Bool.or_eq_false_iff, Bool.not_eq_true', Bool.not_eq_false', beq_iff_eq, beq_eq_false_iff_ne, Int.not_lt, Int.not_le] at h9
    refine St.exit ?_
    refine St.then_exit ?_
    refine St.then_exit ?_
    refine St.in_hit ?_
    refine St.then_normal ?_
    refine St.seq ?_
    refine St.rg ?_
    refine St.ev _ (Ev.assign (Opd.mk rfl)) rfl ?_
    refine St.nil ?_
    refine St.then_normal ?_
    refine St.rett ?_
    refine St.rets [_] [] Try.results51 ⟨rfl, trivial⟩ ?_ (fun _ hw => hw.sub)
    exact ie (ix_none hall (by omega)).symm

theorem ContainsFunc_spec (v0 : Value) (xs : List Int) (fcl : FuncId) (hcb : Callable Try.prog fcl) (caps : List Value) (D : Dat) (pr : Int → Bool) (hcl : ∀ x ∈ xs, FnV Try.prog fcl ([iv x] ++ caps).toArray [D] (.bool (pr x))) :
    FnV Try.prog 42 #[v0, .func (.func fcl) #[] caps.toArray] [sl intR v0 xs, D] (.bool (xs.any pr)) := by
  refine FnV.body2 (args := [v0, .func (.func fcl) #[] caps.toArray]) 9 Try.func42 rfl Try.ntmps42 rfl (fun c => ?_)
  refine St.seq ?_
  refine St.rg ?_
  refine St.ev _ (Ev.assign (Opd.mk rfl)) rfl ?_
  refine St.nil ?_
  refine St.then_normal ?_
  refine St.seq ?_
  refine St.rg ?_
  refine St.ev _ (Ev.move (Opd.mk rfl)) rfl ?_
  refine St.ev _ (Ev.move (Opd.mk rfl)) rfl ?_
  refine St.ev _ (Ev.call (IndexFunc_spec v0 xs fcl hcb caps D pr hcl) cb51 (Opds.cons (Opd.mk rfl) (Opds.cons (Opd.mk rfl) Opds.nil))) rfl ?_
  refine St.ev _ (Ev.geq (Opd.mk rfl) (Opd.mk rfl)) rfl ?_
  refine St.ev _ (Ev.assign (Opd.mk rfl)) rfl ?_
  refine St.nil ?_
  refine St.then_normal ?_
  refine St.rett ?_
  refine St.rets [_] [] Try.results42 ⟨rfl, trivial⟩ ?_ (fun _ hw => hw.sub)
  exact be (ix_nonneg _ _)

theorem build1_spec (p : List Int) (bp : Nat) (vp : Value) (a b : Nat) (ha : a < p.length) (hb : b < p.length) : FnV Try.prog 39 #[iv a, iv b, Value.pointer (some ⟨bp, 0, none⟩)] [cel bp vp, sl intR vp p] (iv (sgn (p.getD a 0) (p.getD b 0))) := by
  refine FnV.body2 (args := [iv a, iv b, Value.pointer (some ⟨bp, 0, none⟩)]) 15 Try.func39 rfl Try.ntmps39 rfl (fun c => ?_)
  refine St.seq ?_
  refine St.rg ?_
  refine St.ev _ (Ev.assign (Opd.mk rfl)) rfl ?_
  refine St.nil ?_
  refine St.then_normal ?_
  refine St.seq ?_
  refine St.rq mixed (by kernel_rfl) (Mm.drawn _ _) ?_
  refine Sq.ev _ (Ev.ldcel (Opd.mk rfl) Try.underlying22 trivial) rfl ?_
  refine Sq.ev _ (Ev.move (Opd.mk rfl)) rfl ?_
  refine Sq.ev _ (Ev.idxaddr (k := a) (Opd.mk rfl) (Opd.mk rfl) Try.underlying22 sz3 (by omega) (by omega)) rfl ?_
  refine Sq.ev _ (Ev.ld1 (Opd.mk rfl) (some_getD 0 ha) Try.underlying3 trivial rfl) rfl ?_
  refine Sq.ev _ (Ev.ldcel (Opd.mk rfl) Try.underlying22 trivial) rfl ?_
  refine Sq.ev _ (Ev.move (Opd.mk rfl)) rfl ?_
  refine Sq.ev _ (Ev.idxaddr (k := b) (Opd.mk rfl) (Opd.mk rfl) Try.underlying22 sz3 (by omega) (by omega)) rfl ?_
  refine Sq.ev _ (Ev.ld1 (Opd.mk rfl) (some_getD 0 hb) Try.underlying3 trivial rfl) rfl ?_
  refine Sq.ev _ (Ev.call (Compare_spec _ _) cb40 (Opds.cons (Opd.mk rfl) (Opds.cons (Opd.mk rfl) Opds.nil))) rfl ?_
  refine Sq.ev _ (Ev.assign (Opd.mk rfl)) rfl ?_
  refine Sq.nil ?_
  refine St.then_normal ?_
  refine St.rett ?_
  refine St.rets [_] [] Try.results39 ⟨rfl, trivial⟩ ?_ (fun _ hw => hw.sub)
  rfl

theorem build2_spec (l : List Nat) (rk : List Int) (bo br : Nat) (vo vr : Value) (i : Nat) (hi : i < rk.length) (h0 : 0 ≤ rk.getD i 0) (h1 : rk.getD i 0 < l.length) :
    FnV Try.prog 41 #[iv i, Value.pointer (some ⟨bo, 0, none⟩), Value.pointer (some ⟨br, 0, none⟩)] [cel bo vo, cel br vr, sl intR vo (ints l), sl intR vr rk] (.bool (!decide (l.getD (rk.getD i 0).toNat 0 = i))) := by
  refine FnV.body4 (args := [iv i, Value.pointer (some ⟨bo, 0, none⟩), Value.pointer (some ⟨br, 0, none⟩)]) 14 Try.func41 rfl Try.ntmps41 rfl (fun c => ?_)
  refine St.seq ?_
  have hl := ints_length l
  refine St.rg ?_
  refine St.ev _ (Ev.assign (Opd.mk rfl)) rfl ?_
  refine St.nil ?_
  refine St.then_normal ?_
  refine St.seq ?_
  refine St.rq mixed (by kernel_rfl) (Mm.drawn _ _) ?_
  refine Sq.ev _ (Ev.ldcel (Opd.mk rfl) Try.underlying22 trivial) rfl ?_
  refine Sq.ev _ (Ev.ldcel (Opd.mk rfl) Try.underlying22 trivial) rfl ?_
  refine Sq.ev _ (Ev.move (Opd.mk rfl)) rfl ?_
  refine Sq.ev _ (Ev.idxaddr (k := i) (Opd.mk rfl) (Opd.mk rfl) Try.underlying22 sz3 (by omega) (by omega)) rfl ?_
  refine Sq.ev _ (Ev.ld1 (Opd.mk rfl) (some_getD 0 hi) Try.underlying3 trivial rfl) rfl ?_
  refine Sq.ev _ (Ev.idxaddr (k := (rk.getD i 0).toNat) (Opd.mk rfl) (Opd.mk rfl) Try.underlying22 sz3 (by omega) (by omega)) rfl ?_
  refine Sq.ev _ (Ev.ld1 (Opd.mk rfl) (some_getD 0 (by omega)) Try.underlying3 trivial rfl) rfl ?_
  refine Sq.ev _ (Ev.move (Opd.mk rfl)) rfl ?_
  refine Sq.ev _ (Ev.neq (Opd.mk rfl) (Opd.mk rfl)) rfl ?_
  refine Sq.ev _ (Ev.assign (Opd.mk rfl)) rfl ?_
  refine Sq.nil ?_
  refine St.then_normal ?_
  refine St.rett ?_
  refine St.rets [_] [] Try.results41 ⟨rfl, trivial⟩ ?_ (fun _ hw => hw.sub)
  exact be (by rw [ints_getD]; congr 1; exact decide_eq_decide.2 (by omega))

theorem build3_spec (p : List Int) (L : Nat) (rk : List Int) (hrk : rk.length = p.length) (hL : p.length ≤ 2000 ∧ L ≤ 4000) (bs bn br : Nat) (vr : Value) (i : Nat) (hi : i < p.length) :
    FnV Try.prog 43 #[iv i, Value.pointer (some ⟨bs, 0, none⟩), Value.pointer (some ⟨bn, 0, none⟩), Value.pointer (some ⟨br, 0, none⟩)] [cel bs (iv L), cel bn (iv p.length), cel br vr, sl intR vr rk] (iv (second p L (fun i => rk.getD i 0) i)) := by
  refine FnV.body4 (args := [iv i, Value.pointer (some ⟨bs, 0, none⟩), Value.pointer (some ⟨bn, 0, none⟩), Value.pointer (some ⟨br, 0, none⟩)]) 17 Try.func43 rfl Try.ntmps43 rfl (fun c => ?_)
  refine St.seq ?_
  refine St.rg ?_
  refine St.ev _ (Ev.assign (Opd.mk rfl)) rfl ?_
  refine St.nil ?_
  refine St.then_normal ?_
  refine St.seq ?_
  refine St.seq ?_
  refine St.rg ?_
  refine St.ev _ (Ev.move (Opd.mk rfl)) rfl ?_
  refine St.ev _ (Ev.ldcel (Opd.mk rfl) Try.underlying3 trivial) rfl ?_
  refine St.ev _ (Ev.add (Opd.mk rfl) (Opd.mk rfl) (by omega)) rfl ?_
  refine St.ev _ (Ev.ldcel (Opd.mk rfl) Try.underlying3 trivial) rfl ?_
  refine St.ev _ (Ev.lss (Opd.mk rfl) (Opd.mk rfl)) rfl ?_
  refine St.nil ?_
  refine St.then_normal ?_
  refine St.cond _ rfl (fun h10 => ?_) (fun h10 => ?_)
  · skip
    try simp only [Bool.and_true, Bool.true_and, decide_eq_true_eq, decide_eq_false_iff_not, Bool.and_eq_true, Bool.or_eq_true, Bool.and_eq_false_iff, Bool.or_eq_false_iff, Bool.not_eq_true', Bool.not_eq_false', beq_iff_eq, beq_eq_false_iff_ne, Int.not_lt, Int.not_le] at h10
    refine St.seq ?_
    refine St.rg ?_
    refine St.ev _ (Ev.ldcel (Opd.mk rfl) Try.underlying22 trivial) rfl ?_
    refine St.ev _ (Ev.move (Opd.mk rfl)) rfl ?_
    refine St.ev _ (Ev.ldcel (Opd.mk rfl) Try.underlying3 trivial) rfl ?_
    refine St.ev _ (Ev.add (Opd.mk rfl) (Opd.mk rfl) (by omega)) rfl ?_
    refine St.ev _ (Ev.idxaddr (k := (i + L)) (Opd.mk rfl) (Opd.mk rfl) Try.underlying22 sz3 (by omega) (by omega)) rfl ?_
    refine St.ev _ (Ev.ld1 (Opd.mk rfl) (some_getD 0 (by omega)) Try.underlying3 trivial rfl) rfl ?_
    refine St.ev _ (Ev.assign (Opd.mk rfl)) rfl ?_
    refine St.nil ?_
    refine St.then_normal ?_
    refine St.rett ?_
    refine St.then_ret ?_
    refine St.rets [_] [] Try.results43 ⟨rfl, trivial⟩ ?_ (fun _ hw => hw.sub)
    exact ie (by unfold second; rw [if_pos (by omega)])
  · skip
    try simp only [Bool.and_true, Bool.true_and, decide_eq_true_eq, decide_eq_false_iff_not, Bool.and_eq_true, Bool.or_eq_true, Bool.and_eq_false_iff, Bool.or_eq_false_iff, Bool.not_eq_true', Bool.not_eq_false', beq_iff_eq, beq_eq_false_iff_ne, Int.not_lt, Int.not_le] at h10
    refine St.skip ?_
    refine St.then_normal ?_
    refine St.seq ?_
    refine St.rg ?_
    refine St.ev _ (Ev.assign (Opd.mk rfl)) rfl ?_
    refine St.nil ?_
    refine St.then_normal ?_
    refine St.rett ?_
    refine St.rets [_] [] Try.results43 ⟨rfl, trivial⟩ ?_ (fun _ hw => hw.sub)
    exact ie (by unfold second; rw [if_neg (by omega)])

theorem build3_specC (p : List Int) (L : Nat) (rk : List Int) (hrk : rk.length = p.length) (hL : p.length ≤ 2000 ∧ L ≤ 4000) (bs bn br : Nat) (vr : Value) (i : Nat) (hi : i < p.length) :
    FnV Try.prog 43 ([iv i] ++ [Value.pointer (some ⟨bs, 0, none⟩), Value.pointer (some ⟨bn, 0, none⟩), Value.pointer (some ⟨br, 0, none⟩)]).toArray [cel bs (iv L), cel bn (iv p.length), cel br vr, sl intR vr rk] (iv (second p L (fun i => rk.getD i 0) i)) := build3_spec p L rk hrk hL bs bn br vr i hi

theorem or_two (a b : Int) : orL [a, b] = if a ≠ 0 then a else b := by
  unfold orL orL orL
  split
  · rfl
  · split
    · rfl
    · omega
theorem sgn_wf (a b : Int) : i64ok (sgn a b) := by unfold sgn i64ok; split <;> (try split) <;> omega

set_option maxHeartbeats 4000000 in
theorem build4_spec (p : List Int) (L : Nat) (rk : List Int) (hrk : rk.length = p.length) (hL : p.length ≤ 2000 ∧ L ≤ 4000) (bs bn br b2 : Nat) (vr : Value) (a b : Nat) (ha : a < p.length) (hb : b < p.length) :
    FnV Try.prog 44 #[iv a, iv b, Value.pointer (some ⟨br, 0, none⟩), Value.pointer (some ⟨b2, 0, none⟩)] [cel br vr, cel b2 (.func (.func 43) #[] #[Value.pointer (some ⟨bs, 0, none⟩), Value.pointer (some ⟨bn, 0, none⟩), Value.pointer (some ⟨br, 0, none⟩)]), cel bs (iv L), cel bn (iv p.length), sl intR vr rk] (iv (cfR p L (fun i => rk.getD i 0) a b)) := by
  refine FnV.body5 (args := [iv a, iv b, Value.pointer (some ⟨br, 0, none⟩), Value.pointer (some ⟨b2, 0, none⟩)]) 25 Try.func44 rfl Try.ntmps44 rfl (fun c => ?_)
  refine St.seq ?_
  refine St.rg ?_
  refine St.ev _ (Ev.assign (Opd.mk rfl)) rfl ?_
  refine St.nil ?_
  refine St.then_normal ?_
  refine St.seq ?_
  refine St.par [] mixed ?_
  refine SW.defer 0 (by repeat (first | refine NP.then ?_ | refine NP.inBlock ?_ | exact NP.body)) (by kernel_rfl) rfl (fun R => Ev.ldcel (Opd.mk rfl) Try.underlying22 trivial) (by kernel_rfl) rfl ?_
  refine SW.defer 1 (by repeat (first | refine NP.then ?_ | refine NP.inBlock ?_ | exact NP.body)) (by kernel_rfl) rfl (fun R => Ev.move (Opd.mk rfl)) (by kernel_rfl) rfl ?_
  refine SW.defer 2 (by repeat (first | refine NP.then ?_ | refine NP.inBlock ?_ | exact NP.body)) (by kernel_rfl) rfl (fun R => Ev.idxaddr (k := a) (Opd.mk rfl) (Opd.mk rfl) Try.underlying22 sz3 (by omega) (by omega)) (by kernel_rfl) rfl ?_
  refine SW.defer 3 (by repeat (first | refine NP.then ?_ | refine NP.inBlock ?_ | exact NP.body)) (by kernel_rfl) rfl (fun R => Ev.ld1 (Opd.mk rfl) (some_getD 0 (by omega)) Try.underlying3 trivial rfl) (by kernel_rfl) rfl ?_
  refine SW.defer 4 (by repeat (first | refine NP.then ?_ | refine NP.inBlock ?_ | exact NP.body)) (by kernel_rfl) rfl (fun R => Ev.ldcel (Opd.mk rfl) Try.underlying22 trivial) (by kernel_rfl) rfl ?_
  refine SW.defer 5 (by repeat (first | refine NP.then ?_ | refine NP.inBlock ?_ | exact NP.body)) (by kernel_rfl) rfl (fun R => Ev.move (Opd.mk rfl)) (by kernel_rfl) rfl ?_
  refine SW.defer 6 (by repeat (first | refine NP.then ?_ | refine NP.inBlock ?_ | exact NP.body)) (by kernel_rfl) rfl (fun R => Ev.idxaddr (k := b) (Opd.mk rfl) (Opd.mk rfl) Try.underlying22 sz3 (by omega) (by omega)) (by kernel_rfl) rfl ?_
  refine SW.defer 7 (by repeat (first | refine NP.then ?_ | refine NP.inBlock ?_ | exact NP.body)) (by kernel_rfl) rfl (fun R => Ev.ld1 (Opd.mk rfl) (some_getD 0 (by omega)) Try.underlying3 trivial rfl) (by kernel_rfl) rfl ?_
  refine SW.defer 8 (by repeat (first | refine NP.then ?_ | refine NP.inBlock ?_ | exact NP.body)) (by kernel_rfl) rfl (fun R => Ev.call (Compare_spec _ _) cb40 (Opds.cons (Opd.mk rfl) (Opds.cons (Opd.mk rfl) Opds.nil))) (by kernel_rfl) rfl ?_
  refine SW.defer 9 (by repeat (first | refine NP.then ?_ | refine NP.inBlock ?_ | exact NP.body)) (by kernel_rfl) rfl (fun R => Ev.ldcel (Opd.mk rfl) Try.underlying55 trivial) (by kernel_rfl) rfl ?_
  refine SW.defer 10 (by repeat (first | refine NP.then ?_ | refine NP.inBlock ?_ | exact NP.body)) (by kernel_rfl) rfl (fun R => Ev.move (Opd.mk rfl)) (by kernel_rfl) rfl ?_
  refine SW.defer 11 (by repeat (first | refine NP.then ?_ | refine NP.inBlock ?_ | exact NP.body)) (by kernel_rfl) rfl (fun R => Ev.callc (build3_specC p L rk hrk hL bs bn br vr a ha) cb43 (Opd.mk rfl) (Opds.cons (Opd.mk rfl) Opds.nil)) (by kernel_rfl) rfl ?_
  refine SW.defer 12 (by repeat (first | refine NP.then ?_ | refine NP.inBlock ?_ | exact NP.body)) (by kernel_rfl) rfl (fun R => Ev.ldcel (Opd.mk rfl) Try.underlying55 trivial) (by kernel_rfl) rfl ?_
  refine SW.defer 13 (by repeat (first | refine NP.then ?_ | refine NP.inBlock ?_ | exact NP.body)) (by kernel_rfl) rfl (fun R => Ev.move (Opd.mk rfl)) (by kernel_rfl) rfl ?_
  refine SW.defer 14 (by repeat (first | refine NP.then ?_ | refine NP.inBlock ?_ | exact NP.body)) (by kernel_rfl) rfl (fun R => Ev.callc (build3_specC p L rk hrk hL bs bn br vr b hb) cb43 (Opd.mk rfl) (Opds.cons (Opd.mk rfl) Opds.nil)) (by kernel_rfl) rfl ?_
  refine SW.defer 15 (by repeat (first | refine NP.then ?_ | refine NP.inBlock ?_ | exact NP.body)) (by kernel_rfl) rfl (fun R => Ev.call (Compare_spec _ _) cb40 (Opds.cons (Opd.mk rfl) (Opds.cons (Opd.mk rfl) Opds.nil))) (by kernel_rfl) rfl ?_
  refine SW.turn1 (i := 16) (by kernel_rfl) rfl ?_
  refine St.buildSl (xs := [(Operand.tmp 15), (Operand.tmp 22)]) (ps := [(0, (Operand.tmp 15)), (1, (Operand.tmp 22))]) rfl (Opds.cons (Opd.mk rfl) (Opds.cons (Opd.mk rfl) Opds.nil)) Try.underlying22 sz3 zv3 rfl rfl (by simp [Value.cells]) rfl rfl (fun b23 => ?_)
  refine St.nil ?_
  refine St.then_normal ?_
  refine SW.go ?_
  refine SW.turn1 (i := 17) (by kernel_rfl) rfl ?_
  refine St.ev _ (Ev.callL (Or_spec _ [sgn (rk.getD a 0) (rk.getD b 0), sgn (second p L (fun i => rk.getD i 0) a) (second p L (fun i => rk.getD i 0) b)]) cb45 (Opds.cons (Opd.mk rfl) Opds.nil) (Lent.row Lent.nil rfl rfl rfl (by intro x hx; simp at hx; rcases hx with rfl | rfl <;> exact sgn_wf _ _))) rfl ?_
  refine St.nil ?_
  refine St.then_normal ?_
  refine SW.go ?_
  refine SW.defer 18 (by repeat (first | refine NP.then ?_ | refine NP.inBlock ?_ | exact NP.body)) (by kernel_rfl) rfl (fun R => Ev.assign (Opd.mk rfl)) (by kernel_rfl) rfl ?_
  refine SW.done (by kernel_rfl) ?_
  refine St.then_normal ?_
  refine St.rett ?_
  refine St.rets [_] [] Try.results44 ⟨rfl, trivial⟩ ?_ (fun _ hw => hw.sub)
  exact ie (by rw [or_two]; rfl)

end Go.Proofs.Ytblmnncmkibhnaa
