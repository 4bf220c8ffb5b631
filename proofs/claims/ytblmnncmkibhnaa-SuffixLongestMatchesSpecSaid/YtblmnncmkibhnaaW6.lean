/-
  The closed example, and the laws of Build and of Find.
  Conditions: none beyond the sizes.
-/
import Derived.Test.YtblmnncmkibhnaaW5
set_option linter.unusedSimpArgs false
set_option linter.unusedVariables false
namespace Go.Proofs.Ytblmnncmkibhnaa
open Go Go.J

theorem rdF : sFault [2, 1, 2] = (0, 0) := by decide
theorem rdS : sufOf [2, 1, 2] = [1, 2, 0] := (sufOf_eq (suf_of (by decide) (by decide))).symm
theorem rdB : bld [2, 1, 2] = [1, 2, 0] := by rw [bld_t (by rw [rdF]), rdS]
theorem rdO : bothF [2, 1, 2] [1, 2, 0] = (0, 0) := bothF_3 (by rw [rdF]) (by rw [rdS]; rfl)
theorem rdN : fnd [2, 1, 2] [1, 2, 0] [2] = [0, 2] := by rw [fnd_t (by rw [rdO])]; decide
theorem bld_wf {p : List Int} : ∀ x ∈ ints (bld p), intR.wf x := int_wf fun i hi => by
  by_cases h : (sFault p).1 = 0
  · rw [bld_t h] at hi; have := suf_mem hi; have := (sFault_ok h).1; omega
  · rw [bld_f h] at hi; cases hi
theorem bothF_len {p ord : List Int} (h : (bothF p ord).1 = 0) : p.length ≤ 2000 := (sFault_ok (bothF_ok h).1).1
theorem fnd_wf {p ord part : List Int} : ∀ x ∈ ints (fnd p ord part), intR.wf x := int_wf fun i hi => by
  by_cases h : (bothF p ord).1 = 0
  · rw [fnd_t h] at hi; have := placesOf_lt hi; have := bothF_len h; omega
  · rw [fnd_f h] at hi; cases hi
theorem places_wf {p part : List Int} (h : p.length ≤ 2000) : ∀ x ∈ ints (placesOf p part), intR.wf x := int_wf fun i hi => by have := placesOf_lt hi; omega

theorem suffixReady_spec : FnV Try.prog 11 #[] [] (.bool true) := by
  have readyB := fun a => Build_spec a [2, 1, 2]
  rw [rdF, rdB] at readyB
  have readyF := fun a b d => Find_spec a b d [2, 1, 2] [1, 2, 0] [2] (by decide)
  rw [rdO, rdN] at readyF
  refine FnV.body0 (args := []) 35 Try.func11 rfl Try.ntmps11 rfl (fun c => ?_)
  refine St.seq ?_
  refine St.rg ?_
  refine St.ev _ (Ev.assign (Opd.mk rfl)) rfl ?_
  refine St.nil ?_
  refine St.then_normal ?_
  refine St.seq ?_
  refine St.rg ?_
  refine St.buildSl (xs := [(Operand.const (Value.int IntKind.i64 2)), (Operand.const (Value.int IntKind.i64 1)), (Operand.const (Value.int IntKind.i64 2))]) (ps := [(0, (Operand.const (Value.int IntKind.i64 2))), (1, (Operand.const (Value.int IntKind.i64 1))), (2, (Operand.const (Value.int IntKind.i64 2)))]) rfl (Opds.cons (Opd.mk rfl) (Opds.cons (Opd.mk rfl) (Opds.cons (Opd.mk rfl) Opds.nil))) Try.underlying22 sz3 zv3 rfl rfl (by simp [Value.cells]) rfl rfl (fun b6 => ?_)
  refine St.publish (.slice (some ⟨b6, 0, none⟩) 3 3) intR [2, 1, 2] rfl rfl (by intro x hx; simp only [List.mem_cons, List.not_mem_nil, or_false] at hx; rcases hx with rfl | rfl | rfl <;> (unfold intR i64ok; decide)) ?_
  refine St.calld (readyB (.slice (some ⟨b6, 0, none⟩) 3 3)) cb12 (Opds.cons (Opd.mk rfl) Opds.nil) rfl ?_
  rintro v7 _ ⟨u0, rfl, h1, rfl⟩
  refine St.app1 ?_
  refine St.publish u0 intR [1, 2, 0] rfl rfl (by intro x hx; simp only [List.mem_cons, List.not_mem_nil, or_false] at hx; rcases hx with rfl | rfl | rfl <;> (unfold intR i64ok; decide)) ?_
  refine St.ev _ (Ev.move (Opd.mk rfl)) rfl ?_
  refine St.ev _ (Ev.extract (Opd.mk rfl) rfl) rfl ?_
  refine St.ev _ (Ev.extract (Opd.mk rfl) rfl) rfl ?_
  refine St.alloc zc25 rfl (fun b2 => ?_)
  refine St.ev _ (Ev.assign (Opd.mk rfl)) rfl ?_
  refine St.storeA (Opd.mk rfl) (Opd.mk rfl) sz25 (by first | simp only [List.length_cons, List.length_nil] | rfl) rfl ?_
  refine St.nil ?_
  refine St.then_normal ?_
  refine St.seq ?_
  refine St.rg ?_
  refine St.buildSl (xs := [(Operand.const (Value.int IntKind.i64 2)), (Operand.const (Value.int IntKind.i64 1)), (Operand.const (Value.int IntKind.i64 2))]) (ps := [(0, (Operand.const (Value.int IntKind.i64 2))), (1, (Operand.const (Value.int IntKind.i64 1))), (2, (Operand.const (Value.int IntKind.i64 2)))]) rfl (Opds.cons (Opd.mk rfl) (Opds.cons (Opd.mk rfl) (Opds.cons (Opd.mk rfl) Opds.nil))) Try.underlying22 sz3 zv3 rfl rfl (by simp [Value.cells]) rfl rfl (fun b11 => ?_)
  refine St.publish (.slice (some ⟨b11, 0, none⟩) 3 3) intR [2, 1, 2] rfl rfl (by intro x hx; simp only [List.mem_cons, List.not_mem_nil, or_false] at hx; rcases hx with rfl | rfl | rfl <;> (unfold intR i64ok; decide)) ?_
  refine St.buildSl (xs := [(Operand.const (Value.int IntKind.i64 1)), (Operand.const (Value.int IntKind.i64 2)), (Operand.const (Value.int IntKind.i64 0))]) (ps := [(0, (Operand.const (Value.int IntKind.i64 1))), (1, (Operand.const (Value.int IntKind.i64 2))), (2, (Operand.const (Value.int IntKind.i64 0)))]) rfl (Opds.cons (Opd.mk rfl) (Opds.cons (Opd.mk rfl) (Opds.cons (Opd.mk rfl) Opds.nil))) Try.underlying22 sz3 zv3 rfl rfl (by simp [Value.cells]) rfl rfl (fun b12 => ?_)
  refine St.publish (.slice (some ⟨b12, 0, none⟩) 3 3) intR [1, 2, 0] rfl rfl (by intro x hx; simp only [List.mem_cons, List.not_mem_nil, or_false] at hx; rcases hx with rfl | rfl | rfl <;> (unfold intR i64ok; decide)) ?_
  refine St.buildSl (xs := [(Operand.const (Value.int IntKind.i64 2))]) (ps := [(0, (Operand.const (Value.int IntKind.i64 2)))]) rfl (Opds.cons (Opd.mk rfl) Opds.nil) Try.underlying22 sz3 zv3 rfl rfl (by simp [Value.cells]) rfl rfl (fun b13 => ?_)
  refine St.publish (.slice (some ⟨b13, 0, none⟩) 1 1) intR [2] rfl rfl (by intro x hx; obtain rfl := List.mem_singleton.1 hx; unfold intR i64ok; decide) ?_
  refine St.calld (readyF (.slice (some ⟨b11, 0, none⟩) 3 3) (.slice (some ⟨b12, 0, none⟩) 3 3) (.slice (some ⟨b13, 0, none⟩) 1 1)) cb17 (Opds.cons (Opd.mk rfl) (Opds.cons (Opd.mk rfl) (Opds.cons (Opd.mk rfl) Opds.nil))) rfl ?_
  rintro v14 _ ⟨w0, rfl, h2, rfl⟩
  refine St.app1 ?_
  refine St.publish w0 intR [0, 2] rfl rfl (by intro x hx; simp only [List.mem_cons, List.not_mem_nil, or_false] at hx; rcases hx with rfl | rfl <;> (unfold intR i64ok; decide)) ?_
  refine St.ev _ (Ev.move (Opd.mk rfl)) rfl ?_
  refine St.ev _ (Ev.extract (Opd.mk rfl) rfl) rfl ?_
  refine St.ev _ (Ev.extract (Opd.mk rfl) rfl) rfl ?_
  refine St.alloc zc25 rfl (fun b4 => ?_)
  refine St.ev _ (Ev.assign (Opd.mk rfl)) rfl ?_
  refine St.storeA (Opd.mk rfl) (Opd.mk rfl) sz25 (by first | simp only [List.length_cons, List.length_nil] | rfl) rfl ?_
  refine St.nil ?_
  refine St.then_normal ?_
  refine St.seq ?_
  refine St.rg ?_
  refine St.ev _ (Ev.fldb0 (Opd.mk rfl) fo25_0) rfl ?_
  refine St.ev _ (Ev.ldb (Opd.mk rfl) Try.underlying3 trivial (by rfl)) rfl ?_
  refine St.ev _ (Ev.eql (Opd.mk rfl) (Opd.mk rfl)) rfl ?_
  refine St.ev _ (Ev.move (Opd.mk rfl)) rfl ?_
  refine St.known 20 _ true rfl (by decide) ?_
  refine St.takeg rfl rfl ?_
  refine St.ev _ (Ev.fldb0 (Opd.mk rfl) fo25_0) rfl ?_
  refine St.takeg rfl rfl ?_
  refine St.ev _ (Ev.ldb (Opd.mk rfl) Try.underlying3 trivial (by rfl)) rfl ?_
  refine St.takeg rfl rfl ?_
  refine St.ev _ (Ev.eql (Opd.mk rfl) (Opd.mk rfl)) rfl ?_
  refine St.ev _ (Ev.pickt (Opd.mk rfl) rfl (Opd.mk rfl)) rfl ?_
  refine St.ev _ (Ev.move (Opd.mk rfl)) rfl ?_
  refine St.known 25 _ true rfl (by decide) ?_
  refine St.takeg rfl rfl ?_
  refine St.ev _ (Ev.move (Opd.mk rfl)) rfl ?_
  refine St.takeg rfl rfl ?_
  refine St.buildSl (xs := [(Operand.const (Value.int IntKind.i64 1)), (Operand.const (Value.int IntKind.i64 2)), (Operand.const (Value.int IntKind.i64 0))]) (ps := [(0, (Operand.const (Value.int IntKind.i64 1))), (1, (Operand.const (Value.int IntKind.i64 2))), (2, (Operand.const (Value.int IntKind.i64 0)))]) rfl (Opds.cons (Opd.mk rfl) (Opds.cons (Opd.mk rfl) (Opds.cons (Opd.mk rfl) Opds.nil))) Try.underlying22 sz3 zv3 rfl rfl (by simp [Value.cells]) rfl rfl (fun b27 => ?_)
  refine St.publish (.slice (some ⟨b27, 0, none⟩) 3 3) intR [1, 2, 0] rfl rfl (by intro x hx; simp only [List.mem_cons, List.not_mem_nil, or_false] at hx; rcases hx with rfl | rfl | rfl <;> (unfold intR i64ok; decide)) ?_
  refine St.takeg rfl rfl ?_
  refine St.ev _ (Ev.call (sameInts_spec u0 (.slice (some ⟨b27, 0, none⟩) 3 3) [1, 2, 0] [1, 2, 0]) cb15 (Opds.cons (Opd.mk rfl) (Opds.cons (Opd.mk rfl) Opds.nil))) rfl ?_
  refine St.ev _ (Ev.pickt (Opd.mk rfl) rfl (Opd.mk rfl)) rfl ?_
  refine St.ev _ (Ev.move (Opd.mk rfl)) rfl ?_
  refine St.known 30 _ true rfl (by decide) ?_
  refine St.takeg rfl rfl ?_
  refine St.ev _ (Ev.move (Opd.mk rfl)) rfl ?_
  refine St.takeg rfl rfl ?_
  refine St.buildSl (xs := [(Operand.const (Value.int IntKind.i64 0)), (Operand.const (Value.int IntKind.i64 2))]) (ps := [(0, (Operand.const (Value.int IntKind.i64 0))), (1, (Operand.const (Value.int IntKind.i64 2)))]) rfl (Opds.cons (Opd.mk rfl) (Opds.cons (Opd.mk rfl) Opds.nil)) Try.underlying22 sz3 zv3 rfl rfl (by simp [Value.cells]) rfl rfl (fun b32 => ?_)
  refine St.publish (.slice (some ⟨b32, 0, none⟩) 2 2) intR [0, 2] rfl rfl (by intro x hx; simp only [List.mem_cons, List.not_mem_nil, or_false] at hx; rcases hx with rfl | rfl <;> (unfold intR i64ok; decide)) ?_
  refine St.takeg rfl rfl ?_
  refine St.ev _ (Ev.call (sameInts_spec w0 (.slice (some ⟨b32, 0, none⟩) 2 2) [0, 2] [0, 2]) cb15 (Opds.cons (Opd.mk rfl) (Opds.cons (Opd.mk rfl) Opds.nil))) rfl ?_
  refine St.ev _ (Ev.pickt (Opd.mk rfl) rfl (Opd.mk rfl)) rfl ?_
  refine St.ev _ (Ev.assign (Opd.mk rfl)) rfl ?_
  refine St.nil ?_
  refine St.then_normal ?_
  refine St.rett ?_
  refine St.rets [_] [] Try.results11 ⟨rfl, trivial⟩ ?_ (fun _ hw => hw.sub)
  exact be (by decide)

theorem law3_spec (v0 : Value) (p : List Int) : FnV Try.prog 3 #[v0] [sl intR v0 p] (.bool true) := by
  refine FnV.body1 (args := [v0]) 97 Try.func3 rfl Try.ntmps3 rfl (fun c => ?_)
  refine St.seq ?_
  refine St.rg ?_
  refine St.ev _ (Ev.assign (Opd.mk rfl)) rfl ?_
  refine St.nil ?_
  refine St.then_normal ?_
  refine St.seq ?_
  refine St.seq ?_
  refine St.rg ?_
  refine St.ev _ (Ev.call (suffixReady_spec) cb11 (Opds.nil)) rfl ?_
  refine St.ev _ (Ev.not (Opd.mk rfl)) rfl ?_
  refine St.nil ?_
  refine St.then_normal ?_
  refine St.condf _ rfl rfl ?_
  refine St.skip ?_
  refine St.then_normal ?_
  refine St.seq ?_
  refine St.rg ?_
  refine St.ev _ (Ev.move (Opd.mk rfl)) rfl ?_
  refine St.calld (Build_spec v0 p) cb12 (Opds.cons (Opd.mk rfl) Opds.nil) rfl ?_
  rintro v11 _ ⟨u0, rfl, h1, rfl⟩
  refine St.app1 ?_
  refine St.publish u0 intR (ints (bld p)) rfl (ints_length _).symm bld_wf ?_
  refine St.ev _ (Ev.move (Opd.mk rfl)) rfl ?_
  refine St.ev _ (Ev.extract (Opd.mk rfl) rfl) rfl ?_
  refine St.ev _ (Ev.extract (Opd.mk rfl) rfl) rfl ?_
  refine St.alloc zc25 rfl (fun b4 => ?_)
  refine St.ev _ (Ev.assign (Opd.mk rfl)) rfl ?_
  refine St.storeA (Opd.mk rfl) (Opd.mk rfl) sz25 (by first | simp only [List.length_cons, List.length_nil] | rfl) rfl ?_
  refine St.nil ?_
  refine St.then_normal ?_
  refine St.seq ?_
  refine St.rg ?_
  refine St.ev _ (Ev.move (Opd.mk rfl)) rfl ?_
  refine St.ev _ (Ev.call (SuffixFault_spec v0 p) cb13 (Opds.cons (Opd.mk rfl) Opds.nil)) rfl ?_
  refine St.alloc zc25 rfl (fun b5 => ?_)
  refine St.storeA (Opd.mk rfl) (Opd.mk rfl) sz25 (by first | simp only [List.length_cons, List.length_nil] | rfl) rfl ?_
  refine St.nil ?_
  refine St.then_normal ?_
  refine St.seq ?_
  refine St.seq ?_
  refine St.rg ?_
  refine St.ev _ (Ev.fldb0 (Opd.mk rfl) fo25_0) rfl ?_
  refine St.ev _ (Ev.ldb (Opd.mk rfl) Try.underlying3 trivial (by rfl)) rfl ?_
  refine St.ev _ (Ev.neq (Opd.mk rfl) (Opd.mk rfl)) rfl ?_
  refine St.nil ?_
  refine St.then_normal ?_
  refine St.cond _ rfl (fun h18 => ?_) (fun h18 => ?_)
  · skip
    try simp only [Bool.and_true, Bool.true_and, decide_eq_true_eq, decide_eq_false_iff_not, Bool.and_eq_true, Bool.or_eq_true, Bool.and_eq_false_iff, Bool.or_eq_false_iff, Bool.not_eq_true', Bool.not_eq_false', beq_iff_eq, beq_eq_false_iff_ne, Int.not_lt, Int.not_le] at h18
    rw [bld_f h18]
    refine St.seq ?_
    refine St.rg ?_
    refine St.ev _ (Ev.ldbA (Opd.mk rfl) Try.underlying25 trivial (by exact sz25)) rfl ?_
    refine St.ev _ (Ev.ldbA (Opd.mk rfl) Try.underlying25 trivial (by exact sz25)) rfl ?_
    refine St.ev _ (Ev.structeql (Opd.mk rfl) (Opd.mk rfl) Try.eqGuardType25 (fun w => eqf25 _ _ _ _ w)) rfl ?_
    refine St.ev _ (Ev.move (Opd.mk rfl)) rfl ?_
    refine St.gt _ rfl rfl (fun hg => Ev.move (Opd.mk rfl)) rfl ?_
    refine St.gt _ rfl rfl (fun hg => Ev.lensl (Opd.gv rfl hg) Try.underlying22) rfl ?_
    refine St.gt _ rfl rfl (fun hg => Ev.eql (Opd.gv rfl hg) (Opd.mk rfl)) rfl ?_
    refine St.ev _ (Ev.and (Opd.mk rfl) (fun hp => Opd.gv rfl hp)) rfl ?_
    refine St.ev _ (Ev.assign (Opd.mk rfl)) rfl ?_
    refine St.nil ?_
    refine St.then_normal ?_
    refine St.rett ?_
    refine St.then_ret ?_
    refine St.rets [_] [] Try.results3 ⟨rfl, trivial⟩ ?_ (fun _ hw => hw.sub)
    exact be (by simp)
  · skip
    try simp only [Bool.and_true, Bool.true_and, decide_eq_true_eq, decide_eq_false_iff_not, Bool.and_eq_true, Bool.or_eq_true, Bool.and_eq_false_iff, Bool.or_eq_false_iff, Bool.not_eq_true', Bool.not_eq_false', beq_iff_eq, beq_eq_false_iff_ne, Int.not_lt, Int.not_le] at h18
    have hz : (sFault p).1 = 0 := by omega
    have hok := sFault_ok hz
    rw [bld_t hz]
    have hln := suf_len p
    have hli := ints_length (sufOf p)
    refine St.skip ?_
    refine St.then_normal ?_
    refine St.seq ?_
    refine St.seq ?_
    refine St.rg ?_
    refine St.ev _ (Ev.fldb0 (Opd.mk rfl) fo25_0) rfl ?_
    refine St.ev _ (Ev.ldb (Opd.mk rfl) Try.underlying3 trivial (by rfl)) rfl ?_
    refine St.ev _ (Ev.neq (Opd.mk rfl) (Opd.mk rfl)) rfl ?_
    refine St.ev _ (Ev.move (Opd.mk rfl)) rfl ?_
    refine St.gf _ rfl rfl (fun hg => Ev.move (Opd.mk rfl)) rfl ?_
    refine St.gf _ rfl rfl (fun hg => Ev.lensl (Opd.gv rfl hg) Try.underlying22) rfl ?_
    refine St.gf _ rfl rfl (fun hg => Ev.move (Opd.mk rfl)) rfl ?_
    refine St.gf _ rfl rfl (fun hg => Ev.lensl (Opd.gv rfl hg) Try.underlying22) rfl ?_
    refine St.gf _ rfl rfl (fun hg => Ev.neq (Opd.gv rfl hg) (Opd.gv rfl hg)) rfl ?_
    refine St.ev _ (Ev.or (Opd.mk rfl) (fun hp => Opd.gv rfl hp)) rfl ?_
    refine St.nil ?_
    refine St.then_normal ?_
    refine St.condf _ rfl (by rw [hli, hln, hz]; simp) ?_
    refine St.skip ?_
    refine St.then_normal ?_
    refine St.seq ?_
    refine St.seq ?_
    refine St.rg ?_
    refine St.ev _ (Ev.move (Opd.mk rfl)) rfl ?_
    refine St.ev _ (Ev.lensl (Opd.mk rfl) Try.underlying22) rfl ?_
    refine St.ev _ (Ev.gtr (Opd.mk rfl) (Opd.mk rfl)) rfl ?_
    refine St.nil ?_
    refine St.then_normal ?_
    refine St.cond _ rfl (fun h39 => ?_) (fun h39 => ?_)
    · skip
      try simp only [Bool.and_true, Bool.true_and, decide_eq_true_eq, decide_eq_false_iff_not, Bool.and_eq_true, Bool.or_eq_true, Bool.and_eq_false_iff, Bool.or_eq_false_iff, Bool.not_eq_true', Bool.not_eq_false', beq_iff_eq, beq_eq_false_iff_ne, Int.not_lt, Int.not_le] at h39
      refine St.seq ?_
      refine St.seq ?_
      refine St.rg ?_
      refine St.ev _ (Ev.assign (Opd.mk rfl)) rfl ?_
      refine St.nil ?_
      refine St.then_normal ?_
      refine St.block ?_
      refine St.loopS (ι := Nat) (fun k T => (6, iv k) :: T) (fun k => k ≤ p.length) (fun k => p.length - k) 0 (Keep.cons 0 rfl (Keep.cons 3 rfl Keep.nil)) (Nat.zero_le _) (by repeat (first | exact Sub.nil | refine Sub.cons (by first | rfl | exact congrArg (fun z => some (iv z)) (by first | omega | (dsimp only; omega)) | exact congrArg (fun z => some (Value.bool z)) (by first | assumption | exact Eq.symm (by assumption))) ?_)) ?_
      intro k hphi
      refine St.seq ?_
      refine St.seq ?_
      refine St.rg ?_
      refine St.ev _ (Ev.move (Opd.mk rfl)) rfl ?_
      refine St.ev _ (Ev.add (Opd.mk rfl) (Opd.mk rfl) (by omega)) rfl ?_
      refine St.ev _ (Ev.move (Opd.mk rfl)) rfl ?_
      refine St.ev _ (Ev.lensl (Opd.mk rfl) Try.underlying22) rfl ?_
      refine St.ev _ (Ev.lss (Opd.mk rfl) (Opd.mk rfl)) rfl ?_
      refine St.nil ?_
      refine St.then_normal ?_
      refine St.cond _ rfl (fun h44 => ?_) (fun h44 => ?_)
      · skip
        try simp only [Bool.and_true, Bool.true_and, decide_eq_true_eq, decide_eq_false_iff_not, Bool.and_eq_true, Bool.or_eq_true, Bool.and_eq_false_iff, Bool.or_eq_false_iff, Bool.not_eq_true', Bool.not_eq_false', beq_iff_eq, beq_eq_false_iff_ne, Int.not_lt, Int.not_le] at h44
        have e0 : (ints (sufOf p))[k]? = some (((sufOf p).getD k 0 : Nat) : Int) := by rw [some_getD 0 (show k < (ints (sufOf p)).length by omega), ints_getD]
        have e1 : (ints (sufOf p))[k + 1]? = some (((sufOf p).getD (k + 1) 0 : Nat) : Int) := by rw [some_getD 0 (show k + 1 < (ints (sufOf p)).length by omega), ints_getD]
        have g0 := perm_lt (sufOf_is p).1 (show k < p.length by omega)
        have g1 := perm_lt (sufOf_is p).1 (show k + 1 < p.length by omega)
        have hlt := (sufOf_is p).2 k (k + 1) (by omega) (by omega)
        generalize (sufOf p).getD k 0 = a at e0 g0 hlt
        generalize (sufOf p).getD (k + 1) 0 = b at e1 g1 hlt
        refine St.skip ?_
        refine St.then_normal ?_
        refine St.seq ?_
        refine St.block ?_
        refine St.seq ?_
        refine St.rq mixed (by kernel_rfl) (Mm.drawn _ _) ?_
        refine Sq.ev _ (Ev.move (Opd.mk rfl)) rfl ?_
        refine Sq.ev _ (Ev.move (Opd.mk rfl)) rfl ?_
        refine Sq.ev _ (Ev.idxaddr (k := k) (Opd.mk rfl) (Opd.mk rfl) Try.underlying22 sz3 (by omega) (by first | omega | (simp only [Bool.and_true, Bool.true_and, decide_eq_true_eq, decide_eq_false_iff_not, Bool.and_eq_true, Bool.or_eq_true, Bool.and_eq_false_iff, Bool.or_eq_false_iff, Bool.not_eq_true', Bool.not_eq_false', beq_iff_eq, beq_eq_false_iff_ne, Int.not_lt, Int.not_le] at hg; omega))) rfl ?_
        refine Sq.ev _ (Ev.ld1 (Opd.mk rfl) e0 Try.underlying3 trivial rfl) rfl ?_
        refine Sq.ev _ (Ev.lss (Opd.mk rfl) (Opd.mk rfl)) rfl ?_
        refine Sq.ev _ (Ev.move (Opd.mk rfl)) rfl ?_
        refine Sq.gf _ rfl rfl (fun hg => Ev.move (Opd.mk rfl)) rfl ?_
        refine Sq.gf _ rfl rfl (fun hg => Ev.move (Opd.mk rfl)) rfl ?_
        refine Sq.gf _ rfl rfl (fun hg => Ev.idxaddr (k := k) (Opd.gv rfl hg) (Opd.gv rfl hg) Try.underlying22 sz3 (by first | omega | (simp only [Bool.and_true, Bool.true_and, decide_eq_true_eq, decide_eq_false_iff_not, Bool.and_eq_true, Bool.or_eq_true, Bool.and_eq_false_iff, Bool.or_eq_false_iff, Bool.not_eq_true', Bool.not_eq_false', beq_iff_eq, beq_eq_false_iff_ne, Int.not_lt, Int.not_le] at hg; omega)) (by first | omega | (simp only [Bool.and_true, Bool.true_and, decide_eq_true_eq, decide_eq_false_iff_not, Bool.and_eq_true, Bool.or_eq_true, Bool.and_eq_false_iff, Bool.or_eq_false_iff, Bool.not_eq_true', Bool.not_eq_false', beq_iff_eq, beq_eq_false_iff_ne, Int.not_lt, Int.not_le] at hg; omega))) rfl ?_
        refine Sq.gf _ rfl rfl (fun hg => Ev.ld1 (Opd.gv rfl hg) e0 Try.underlying3 trivial rfl) rfl ?_
        refine Sq.gf _ rfl rfl (fun hg => Ev.move (Opd.mk rfl)) rfl ?_
        refine Sq.gf _ rfl rfl (fun hg => Ev.lensl (Opd.gv rfl hg) Try.underlying22) rfl ?_
        refine Sq.gf _ rfl rfl (fun hg => Ev.geq (Opd.gv rfl hg) (Opd.gv rfl hg)) rfl ?_
        refine Sq.ev _ (Ev.or (Opd.mk rfl) (fun hp => Opd.gv rfl hp)) rfl ?_
        refine Sq.ev _ (Ev.move (Opd.mk rfl)) rfl ?_
        refine Sq.gf _ rfl rfl (fun hg => Ev.move (Opd.mk rfl)) rfl ?_
        refine Sq.gf _ rfl rfl (fun hg => Ev.move (Opd.mk rfl)) rfl ?_
        refine Sq.gf _ rfl rfl (fun hg => Ev.add (Opd.gv rfl hg) (Opd.mk rfl) (by first | omega | (simp only [Bool.and_true, Bool.true_and, decide_eq_true_eq, decide_eq_false_iff_not, Bool.and_eq_true, Bool.or_eq_true, Bool.and_eq_false_iff, Bool.or_eq_false_iff, Bool.not_eq_true', Bool.not_eq_false', beq_iff_eq, beq_eq_false_iff_ne, Int.not_lt, Int.not_le] at hg; omega))) rfl ?_
        refine Sq.gf _ rfl rfl (fun hg => Ev.idxaddr (k := (k + 1)) (Opd.gv rfl hg) (Opd.gv rfl hg) Try.underlying22 sz3 (by first | omega | (simp only [Bool.and_true, Bool.true_and, decide_eq_true_eq, decide_eq_false_iff_not, Bool.and_eq_true, Bool.or_eq_true, Bool.and_eq_false_iff, Bool.or_eq_false_iff, Bool.not_eq_true', Bool.not_eq_false', beq_iff_eq, beq_eq_false_iff_ne, Int.not_lt, Int.not_le] at hg; omega)) (by first | omega | (simp only [Bool.and_true, Bool.true_and, decide_eq_true_eq, decide_eq_false_iff_not, Bool.and_eq_true, Bool.or_eq_true, Bool.and_eq_false_iff, Bool.or_eq_false_iff, Bool.not_eq_true', Bool.not_eq_false', beq_iff_eq, beq_eq_false_iff_ne, Int.not_lt, Int.not_le] at hg; omega))) rfl ?_
        refine Sq.gf _ rfl rfl (fun hg => Ev.ld1 (Opd.gv rfl hg) e1 Try.underlying3 trivial rfl) rfl ?_
        refine Sq.gf _ rfl rfl (fun hg => Ev.lss (Opd.gv rfl hg) (Opd.mk rfl)) rfl ?_
        refine Sq.ev _ (Ev.or (Opd.mk rfl) (fun hp => Opd.gv rfl hp)) rfl ?_
        refine Sq.ev _ (Ev.move (Opd.mk rfl)) rfl ?_
        refine Sq.gf _ rfl rfl (fun hg => Ev.move (Opd.mk rfl)) rfl ?_
        refine Sq.gf _ rfl rfl (fun hg => Ev.move (Opd.mk rfl)) rfl ?_
        refine Sq.gf _ rfl rfl (fun hg => Ev.add (Opd.gv rfl hg) (Opd.mk rfl) (by first | omega | (simp only [Bool.and_true, Bool.true_and, decide_eq_true_eq, decide_eq_false_iff_not, Bool.and_eq_true, Bool.or_eq_true, Bool.and_eq_false_iff, Bool.or_eq_false_iff, Bool.not_eq_true', Bool.not_eq_false', beq_iff_eq, beq_eq_false_iff_ne, Int.not_lt, Int.not_le] at hg; omega))) rfl ?_
        refine Sq.gf _ rfl rfl (fun hg => Ev.idxaddr (k := (k + 1)) (Opd.gv rfl hg) (Opd.gv rfl hg) Try.underlying22 sz3 (by first | omega | (simp only [Bool.and_true, Bool.true_and, decide_eq_true_eq, decide_eq_false_iff_not, Bool.and_eq_true, Bool.or_eq_true, Bool.and_eq_false_iff, Bool.or_eq_false_iff, Bool.not_eq_true', Bool.not_eq_false', beq_iff_eq, beq_eq_false_iff_ne, Int.not_lt, Int.not_le] at hg; omega)) (by first | omega | (simp only [Bool.and_true, Bool.true_and, decide_eq_true_eq, decide_eq_false_iff_not, Bool.and_eq_true, Bool.or_eq_true, Bool.and_eq_false_iff, Bool.or_eq_false_iff, Bool.not_eq_true', Bool.not_eq_false', beq_iff_eq, beq_eq_false_iff_ne, Int.not_lt, Int.not_le] at hg; omega))) rfl ?_
        refine Sq.gf _ rfl rfl (fun hg => Ev.ld1 (Opd.gv rfl hg) e1 Try.underlying3 trivial rfl) rfl ?_
        refine Sq.gf _ rfl rfl (fun hg => Ev.move (Opd.mk rfl)) rfl ?_
        refine Sq.gf _ rfl rfl (fun hg => Ev.lensl (Opd.gv rfl hg) Try.underlying22) rfl ?_
        refine Sq.gf _ rfl rfl (fun hg => Ev.geq (Opd.gv rfl hg) (Opd.gv rfl hg)) rfl ?_
        refine Sq.ev _ (Ev.or (Opd.mk rfl) (fun hp => Opd.gv rfl hp)) rfl ?_
        refine Sq.ev _ (Ev.move (Opd.mk rfl)) rfl ?_
        refine Sq.gf _ rfl rfl (fun hg => Ev.move (Opd.mk rfl)) rfl ?_
        refine Sq.gf _ rfl rfl (fun hg => Ev.move (Opd.mk rfl)) rfl ?_
        refine Sq.gf _ rfl rfl (fun hg => Ev.move (Opd.mk rfl)) rfl ?_
        refine Sq.gf _ rfl rfl (fun hg => Ev.idxaddr (k := k) (Opd.gv rfl hg) (Opd.gv rfl hg) Try.underlying22 sz3 (by first | omega | (simp only [Bool.and_true, Bool.true_and, decide_eq_true_eq, decide_eq_false_iff_not, Bool.and_eq_true, Bool.or_eq_true, Bool.and_eq_false_iff, Bool.or_eq_false_iff, Bool.not_eq_true', Bool.not_eq_false', beq_iff_eq, beq_eq_false_iff_ne, Int.not_lt, Int.not_le] at hg; omega)) (by first | omega | (simp only [Bool.and_true, Bool.true_and, decide_eq_true_eq, decide_eq_false_iff_not, Bool.and_eq_true, Bool.or_eq_true, Bool.and_eq_false_iff, Bool.or_eq_false_iff, Bool.not_eq_true', Bool.not_eq_false', beq_iff_eq, beq_eq_false_iff_ne, Int.not_lt, Int.not_le] at hg; omega))) rfl ?_
        refine Sq.gf _ rfl rfl (fun hg => Ev.ld1 (Opd.gv rfl hg) e0 Try.underlying3 trivial rfl) rfl ?_
        refine Sq.gf _ rfl rfl (fun hg => Ev.move (Opd.mk rfl)) rfl ?_
        refine Sq.gf _ rfl rfl (fun hg => Ev.move (Opd.mk rfl)) rfl ?_
        refine Sq.gf _ rfl rfl (fun hg => Ev.add (Opd.gv rfl hg) (Opd.mk rfl) (by first | omega | (simp only [Bool.and_true, Bool.true_and, decide_eq_true_eq, decide_eq_false_iff_not, Bool.and_eq_true, Bool.or_eq_true, Bool.and_eq_false_iff, Bool.or_eq_false_iff, Bool.not_eq_true', Bool.not_eq_false', beq_iff_eq, beq_eq_false_iff_ne, Int.not_lt, Int.not_le] at hg; omega))) rfl ?_
        refine Sq.gf _ rfl rfl (fun hg => Ev.idxaddr (k := (k + 1)) (Opd.gv rfl hg) (Opd.gv rfl hg) Try.underlying22 sz3 (by first | omega | (simp only [Bool.and_true, Bool.true_and, decide_eq_true_eq, decide_eq_false_iff_not, Bool.and_eq_true, Bool.or_eq_true, Bool.and_eq_false_iff, Bool.or_eq_false_iff, Bool.not_eq_true', Bool.not_eq_false', beq_iff_eq, beq_eq_false_iff_ne, Int.not_lt, Int.not_le] at hg; omega)) (by first | omega | (simp only [Bool.and_true, Bool.true_and, decide_eq_true_eq, decide_eq_false_iff_not, Bool.and_eq_true, Bool.or_eq_true, Bool.and_eq_false_iff, Bool.or_eq_false_iff, Bool.not_eq_true', Bool.not_eq_false', beq_iff_eq, beq_eq_false_iff_ne, Int.not_lt, Int.not_le] at hg; omega))) rfl ?_
        refine Sq.gf _ rfl rfl (fun hg => Ev.ld1 (Opd.gv rfl hg) e1 Try.underlying3 trivial rfl) rfl ?_
        refine Sq.gf _ rfl rfl (fun hg => Ev.call (Less_spec v0 p (by omega) a b (by omega) (by omega)) cb14 (Opds.cons (Opd.gv rfl hg) (Opds.cons (Opd.gv rfl hg) (Opds.cons (Opd.gv rfl hg) Opds.nil)))) rfl ?_
        refine Sq.gf _ rfl rfl (fun hg => Ev.not (Opd.gv rfl hg)) rfl ?_
        refine Sq.ev _ (Ev.or (Opd.mk rfl) (fun hp => Opd.gv rfl hp)) rfl ?_
        refine Sq.nil ?_
        refine St.then_normal ?_
        refine St.condf _ rfl (by rw [hlt]; simp only [Bool.or_eq_false_iff, Bool.not_eq_false', decide_eq_false_iff_not, Int.not_lt, Int.not_le]; refine ⟨⟨⟨⟨?_, ?_⟩, ?_⟩, ?_⟩, trivial⟩ <;> omega) ?_
        refine St.skip ?_
        refine St.in_normal ?_
        refine St.then_normal ?_
        refine St.rg ?_
        refine St.ev _ (Ev.move (Opd.mk rfl)) rfl ?_
        refine St.ev _ (Ev.add (Opd.mk rfl) (Opd.mk rfl) (by omega)) rfl ?_
        refine St.ev _ (Ev.assign (Opd.mk rfl)) rfl ?_
        refine St.nil ?_
        refine St.then_normal ?_
        refine St.againS (k + 1) (by omega) (by first | omega | (dsimp only; omega)) (by repeat (first | exact Sub.nil | refine Sub.cons (by first | rfl | exact congrArg (fun z => some (iv z)) (by first | omega | (dsimp only; omega)) | exact congrArg (fun z => some (Value.bool z)) (by first | assumption | exact Eq.symm (by assumption))) ?_)) (fun _ hw => hw.sub)
      · skip
        try simp only [Bool.and_true, Bool.true_and, decide_eq_true_eq, decide_eq_false_iff_not, Bool.and_eq_true, Bool.or_eq_true, Bool.and_eq_false_iff, Bool.or_eq_false_iff, Bool.not_eq_true', Bool.not_eq_false', beq_iff_eq, beq_eq_false_iff_ne, Int.not_lt, Int.not_le] at h44
        refine St.exit ?_
        refine St.then_exit ?_
        refine St.then_exit ?_
        refine St.in_hit ?_
        refine St.then_normal ?_
        refine St.seq ?_
        refine St.rg ?_
        refine St.ev _ (Ev.assign (Opd.mk rfl)) rfl ?_
        refine St.nil ?_
        refine St.then_normal ?_
        refine St.rett ?_
        refine St.then_ret ?_
        refine St.rets [_] [] Try.results3 ⟨rfl, trivial⟩ ?_ (fun _ hw => hw.sub)
        exact be rfl
    · skip
      try simp only [Bool.and_true, Bool.true_and, decide_eq_true_eq, decide_eq_false_iff_not, Bool.and_eq_true, Bool.or_eq_true, Bool.and_eq_false_iff, Bool.or_eq_false_iff, Bool.not_eq_true', Bool.not_eq_false', beq_iff_eq, beq_eq_false_iff_ne, Int.not_lt, Int.not_le] at h39
      refine St.skip ?_
      refine St.then_normal ?_
      refine St.seq ?_
      refine St.rg ?_
      refine St.ev _ (Ev.move (Opd.mk rfl)) rfl ?_
      refine St.ev _ (Ev.move (Opd.mk rfl)) rfl ?_
      refine St.calld (Order_spec v0 p hok.1) cb16 (Opds.cons (Opd.mk rfl) Opds.nil) rfl ?_
      rintro v95 _ ⟨h2, rfl⟩
      refine St.app1 ?_
      refine St.publish v95 intR (ints (sufOf p)) rfl (ints_length _).symm (suf_wf (by omega)) ?_
      refine St.ev _ (Ev.call (sameInts_spec u0 v95 (ints (sufOf p)) (ints (sufOf p))) cb15 (Opds.cons (Opd.mk rfl) (Opds.cons (Opd.mk rfl) Opds.nil))) rfl ?_
      refine St.ev _ (Ev.assign (Opd.mk rfl)) rfl ?_
      refine St.nil ?_
      refine St.then_normal ?_
      refine St.rett ?_
      refine St.rets [_] [] Try.results3 ⟨rfl, trivial⟩ ?_ (fun _ hw => hw.sub)
      exact be (by simp)

theorem law4_spec (v0 v1 v2 : Value) (p ord part : List Int) (hsz : part.length ≤ 4611686018427387904) : FnV Try.prog 4 #[v0, v1, v2] [sl intR v0 p, sl intR v1 ord, sl intR v2 part] (.bool true) := by
  refine FnV.body3 (args := [v0, v1, v2]) 61 Try.func4 rfl Try.ntmps4 rfl (fun c => ?_)
  refine St.seq ?_
  refine St.rg ?_
  refine St.ev _ (Ev.assign (Opd.mk rfl)) rfl ?_
  refine St.nil ?_
  refine St.then_normal ?_
  refine St.seq ?_
  refine St.seq ?_
  refine St.rg ?_
  refine St.ev _ (Ev.call (suffixReady_spec) cb11 (Opds.nil)) rfl ?_
  refine St.ev _ (Ev.not (Opd.mk rfl)) rfl ?_
  refine St.nil ?_
  refine St.then_normal ?_
  refine St.condf _ rfl rfl ?_
  refine St.skip ?_
  refine St.then_normal ?_
  refine St.seq ?_
  refine St.seq ?_
  refine St.rg ?_
  refine St.ev _ (Ev.move (Opd.mk rfl)) rfl ?_
  refine St.ev _ (Ev.lensl (Opd.mk rfl) Try.underlying22) rfl ?_
  refine St.ev _ (Ev.gtr (Opd.mk rfl) (Opd.mk rfl)) rfl ?_
  refine St.ev _ (Ev.move (Opd.mk rfl)) rfl ?_
  refine St.gt _ rfl rfl (fun hg => Ev.move (Opd.mk rfl)) rfl ?_
  refine St.gt _ rfl rfl (fun hg => Ev.lensl (Opd.gv rfl hg) Try.underlying22) rfl ?_
  refine St.gt _ rfl rfl (fun hg => Ev.leq (Opd.gv rfl hg) (Opd.mk rfl)) rfl ?_
  refine St.ev _ (Ev.and (Opd.mk rfl) (fun hp => Opd.gv rfl hp)) rfl ?_
  refine St.nil ?_
  refine St.then_normal ?_
  refine St.cond _ rfl (fun h19 => ?_) (fun h19 => ?_)
  · skip
    try simp only [Bool.and_true, Bool.true_and, decide_eq_true_eq, decide_eq_false_iff_not, Bool.and_eq_true, Bool.or_eq_true, Bool.and_eq_false_iff, Bool.or_eq_false_iff, Bool.not_eq_true', Bool.not_eq_false', beq_iff_eq, beq_eq_false_iff_ne, Int.not_lt, Int.not_le] at h19
    refine St.seq ?_
    refine St.rg ?_
    refine St.ev _ (Ev.assign (Opd.mk rfl)) rfl ?_
    refine St.nil ?_
    refine St.then_normal ?_
    refine St.rett ?_
    refine St.then_ret ?_
    refine St.rets [_] [] Try.results4 ⟨rfl, trivial⟩ ?_ (fun _ hw => hw.sub)
    exact be rfl
  · skip
    try simp only [Bool.and_true, Bool.true_and, decide_eq_true_eq, decide_eq_false_iff_not, Bool.and_eq_true, Bool.or_eq_true, Bool.and_eq_false_iff, Bool.or_eq_false_iff, Bool.not_eq_true', Bool.not_eq_false', beq_iff_eq, beq_eq_false_iff_ne, Int.not_lt, Int.not_le] at h19
    refine St.skip ?_
    refine St.then_normal ?_
    refine St.seq ?_
    refine St.rg ?_
    refine St.ev _ (Ev.move (Opd.mk rfl)) rfl ?_
    refine St.ev _ (Ev.move (Opd.mk rfl)) rfl ?_
    refine St.ev _ (Ev.move (Opd.mk rfl)) rfl ?_
    refine St.calld (Find_spec v0 v1 v2 p ord part hsz) cb17 (Opds.cons (Opd.mk rfl) (Opds.cons (Opd.mk rfl) (Opds.cons (Opd.mk rfl) Opds.nil))) rfl ?_
    rintro v24 _ ⟨u0, rfl, h1, rfl⟩
    refine St.app1 ?_
    refine St.publish u0 intR (ints (fnd p ord part)) rfl (ints_length _).symm fnd_wf ?_
    refine St.ev _ (Ev.move (Opd.mk rfl)) rfl ?_
    refine St.ev _ (Ev.extract (Opd.mk rfl) rfl) rfl ?_
    refine St.ev _ (Ev.extract (Opd.mk rfl) rfl) rfl ?_
    refine St.alloc zc25 rfl (fun b8 => ?_)
    refine St.ev _ (Ev.assign (Opd.mk rfl)) rfl ?_
    refine St.storeA (Opd.mk rfl) (Opd.mk rfl) sz25 (by first | simp only [List.length_cons, List.length_nil] | rfl) rfl ?_
    refine St.nil ?_
    refine St.then_normal ?_
    refine St.seq ?_
    refine St.rg ?_
    refine St.ev _ (Ev.move (Opd.mk rfl)) rfl ?_
    refine St.ev _ (Ev.call (SuffixFault_spec v0 p) cb13 (Opds.cons (Opd.mk rfl) Opds.nil)) rfl ?_
    refine St.alloc zc25 rfl (fun b9 => ?_)
    refine St.storeA (Opd.mk rfl) (Opd.mk rfl) sz25 (by first | simp only [List.length_cons, List.length_nil] | rfl) rfl ?_
    refine St.nil ?_
    refine St.then_normal ?_
    refine St.seq ?_
    refine St.seq ?_
    refine St.rg ?_
    refine St.ev _ (Ev.fldb0 (Opd.mk rfl) fo25_0) rfl ?_
    refine St.ev _ (Ev.ldb (Opd.mk rfl) Try.underlying3 trivial (by rfl)) rfl ?_
    refine St.ev _ (Ev.eql (Opd.mk rfl) (Opd.mk rfl)) rfl ?_
    refine St.ev _ (Ev.move (Opd.mk rfl)) rfl ?_
    refine St.split 32 _ rfl (fun hs => ?_) (fun hs => ?_)
    · skip
      have hz : (sFault p).1 = 0 := by simpa using hs
      have hok := sFault_ok hz
      refine St.takeg rfl rfl ?_
      refine St.ev _ (Ev.move (Opd.mk rfl)) rfl ?_
      refine St.takeg rfl rfl ?_
      refine St.ev _ (Ev.move (Opd.mk rfl)) rfl ?_
      refine St.takeg rfl rfl ?_
      refine St.calld (Order_spec v0 p hok.1) cb16 (Opds.cons (Opd.mk rfl) Opds.nil) rfl ?_
      rintro v35 _ ⟨h2, rfl⟩
      refine St.app1 ?_
      refine St.publish v35 intR (ints (sufOf p)) rfl (ints_length _).symm (suf_wf (by omega)) ?_
      refine St.takeg rfl rfl ?_
      refine St.ev _ (Ev.call (sameInts_spec v1 v35 ord (ints (sufOf p))) cb15 (Opds.cons (Opd.mk rfl) (Opds.cons (Opd.mk rfl) Opds.nil))) rfl ?_
      refine St.takeg rfl rfl ?_
      refine St.ev _ (Ev.not (Opd.mk rfl)) rfl ?_
      refine St.ev _ (Ev.pickt (Opd.mk rfl) rfl (Opd.mk rfl)) rfl ?_
      refine St.nil ?_
      refine St.then_normal ?_
      refine St.cond _ rfl (fun h38 => ?_) (fun h38 => ?_)
      · skip
        try simp only [Bool.and_true, Bool.true_and, decide_eq_true_eq, decide_eq_false_iff_not, Bool.and_eq_true, Bool.or_eq_true, Bool.and_eq_false_iff, Bool.or_eq_false_iff, Bool.not_eq_true', Bool.not_eq_false', beq_iff_eq, beq_eq_false_iff_ne, Int.not_lt, Int.not_le] at h38
        rw [bothF_2 hz h38, fnd_f (by rw [bothF_2 hz h38]; decide)]
        refine St.rg ?_
        refine St.ev _ (Ev.build (ps := [(0, (Operand.const (Value.int IntKind.i64 5))), (1, (Operand.const (Value.int IntKind.i64 (-2))))]) (Opds.cons (Opd.mk rfl) (Opds.cons (Opd.mk rfl) Opds.nil)) (fun w => bld25_0_1 rfl rfl w)) rfl ?_
        refine St.storeA (Opd.mk rfl) (Opd.mk rfl) sz25 (by first | simp only [List.length_cons, List.length_nil] | rfl) rfl ?_
        refine St.nil ?_
        refine St.then_normal ?_
        refine St.seq ?_
        refine St.seq ?_
        refine St.rg ?_
        refine St.ev _ (Ev.fldb0 (Opd.mk rfl) fo25_0) rfl ?_
        refine St.ev _ (Ev.ldb (Opd.mk rfl) Try.underlying3 trivial (by rfl)) rfl ?_
        refine St.ev _ (Ev.neq (Opd.mk rfl) (Opd.mk rfl)) rfl ?_
        refine St.nil ?_
        refine St.then_normal ?_
        refine St.condt _ rfl rfl ?_
        refine St.seq ?_
        refine St.rg ?_
        refine St.ev _ (Ev.ldbA (Opd.mk rfl) Try.underlying25 trivial (by exact sz25)) rfl ?_
        refine St.ev _ (Ev.ldbA (Opd.mk rfl) Try.underlying25 trivial (by exact sz25)) rfl ?_
        refine St.ev _ (Ev.structeql (Opd.mk rfl) (Opd.mk rfl) Try.eqGuardType25 (fun w => eqf25 _ _ _ _ w)) rfl ?_
        refine St.ev _ (Ev.move (Opd.mk rfl)) rfl ?_
        refine St.gt _ rfl rfl (fun hg => Ev.move (Opd.mk rfl)) rfl ?_
        refine St.gt _ rfl rfl (fun hg => Ev.lensl (Opd.gv rfl hg) Try.underlying22) rfl ?_
        refine St.gt _ rfl rfl (fun hg => Ev.eql (Opd.gv rfl hg) (Opd.mk rfl)) rfl ?_
        refine St.ev _ (Ev.and (Opd.mk rfl) (fun hp => Opd.gv rfl hp)) rfl ?_
        refine St.ev _ (Ev.assign (Opd.mk rfl)) rfl ?_
        refine St.nil ?_
        refine St.then_normal ?_
        refine St.rett ?_
        refine St.then_ret ?_
        refine St.rets [_] [] Try.results4 ⟨rfl, trivial⟩ ?_ (fun _ hw => hw.sub)
        exact be (by simp)
      · skip
        try simp only [Bool.and_true, Bool.true_and, decide_eq_true_eq, decide_eq_false_iff_not, Bool.and_eq_true, Bool.or_eq_true, Bool.and_eq_false_iff, Bool.or_eq_false_iff, Bool.not_eq_true', Bool.not_eq_false', beq_iff_eq, beq_eq_false_iff_ne, Int.not_lt, Int.not_le] at h38
        have hb := bothF_3 hz h38
        rw [hb, fnd_t (by rw [hb]), hok.2]
        refine St.skip ?_
        refine St.then_normal ?_
        refine St.seq ?_
        refine St.seq ?_
        refine St.rg ?_
        refine St.ev _ (Ev.fldb0 (Opd.mk rfl) fo25_0) rfl ?_
        refine St.ev _ (Ev.ldb (Opd.mk rfl) Try.underlying3 trivial (by rfl)) rfl ?_
        refine St.ev _ (Ev.neq (Opd.mk rfl) (Opd.mk rfl)) rfl ?_
        refine St.nil ?_
        refine St.then_normal ?_
        refine St.condf _ rfl rfl ?_
        refine St.skip ?_
        refine St.then_normal ?_
        refine St.seq ?_
        refine St.rg ?_
        refine St.ev _ (Ev.fldb0 (Opd.mk rfl) fo25_0) rfl ?_
        refine St.ev _ (Ev.ldb (Opd.mk rfl) Try.underlying3 trivial (by rfl)) rfl ?_
        refine St.ev _ (Ev.eql (Opd.mk rfl) (Opd.mk rfl)) rfl ?_
        refine St.ev _ (Ev.move (Opd.mk rfl)) rfl ?_
        refine St.known 54 _ true rfl (by decide) ?_
        refine St.takeg rfl rfl ?_
        refine St.ev _ (Ev.move (Opd.mk rfl)) rfl ?_
        refine St.takeg rfl rfl ?_
        refine St.ev _ (Ev.move (Opd.mk rfl)) rfl ?_
        refine St.takeg rfl rfl ?_
        refine St.ev _ (Ev.move (Opd.mk rfl)) rfl ?_
        refine St.takeg rfl rfl ?_
        refine St.calld (Places_spec v0 v2 p part hok.1 hsz) cb18 (Opds.cons (Opd.mk rfl) (Opds.cons (Opd.mk rfl) Opds.nil)) rfl ?_
        rintro v58 _ ⟨h3, rfl⟩
        refine St.app1 ?_
        refine St.publish v58 intR (ints (placesOf p part)) rfl (ints_length _).symm (places_wf hok.1) ?_
        refine St.takeg rfl rfl ?_
        refine St.ev _ (Ev.call (sameInts_spec u0 v58 (ints (placesOf p part)) (ints (placesOf p part))) cb15 (Opds.cons (Opd.mk rfl) (Opds.cons (Opd.mk rfl) Opds.nil))) rfl ?_
        refine St.ev _ (Ev.pickt (Opd.mk rfl) rfl (Opd.mk rfl)) rfl ?_
        refine St.ev _ (Ev.assign (Opd.mk rfl)) rfl ?_
        refine St.nil ?_
        refine St.then_normal ?_
        refine St.rett ?_
        refine St.rets [_] [] Try.results4 ⟨rfl, trivial⟩ ?_ (fun _ hw => hw.sub)
        exact be (by simp)
    · skip
      have hz : (sFault p).1 ≠ 0 := by simpa using hs
      rw [bothF_1 hz, fnd_f (by rw [bothF_1 hz]; exact hz)]
      refine St.skipg rfl rfl rfl ?_
      refine St.skipg rfl rfl rfl ?_
      refine St.skipg rfl rfl rfl ?_
      refine St.skipg rfl rfl rfl ?_
      refine St.skipg rfl rfl rfl ?_
      refine St.ev _ (Ev.pickf (Opd.mk rfl) rfl (Opd.mk rfl)) rfl ?_
      refine St.nil ?_
      refine St.then_normal ?_
      refine St.condf _ rfl rfl ?_
      refine St.skip ?_
      refine St.then_normal ?_
      refine St.seq ?_
      refine St.seq ?_
      refine St.rg ?_
      refine St.ev _ (Ev.fldb0 (Opd.mk rfl) fo25_0) rfl ?_
      refine St.ev _ (Ev.ldb (Opd.mk rfl) Try.underlying3 trivial (by rfl)) rfl ?_
      refine St.ev _ (Ev.neq (Opd.mk rfl) (Opd.mk rfl)) rfl ?_
      refine St.nil ?_
      refine St.then_normal ?_
      refine St.condt _ rfl (by simpa using hz) ?_
      refine St.seq ?_
      refine St.rg ?_
      refine St.ev _ (Ev.ldbA (Opd.mk rfl) Try.underlying25 trivial (by exact sz25)) rfl ?_
      refine St.ev _ (Ev.ldbA (Opd.mk rfl) Try.underlying25 trivial (by exact sz25)) rfl ?_
      refine St.ev _ (Ev.structeql (Opd.mk rfl) (Opd.mk rfl) Try.eqGuardType25 (fun w => eqf25 _ _ _ _ w)) rfl ?_
      refine St.ev _ (Ev.move (Opd.mk rfl)) rfl ?_
      refine St.gt _ rfl rfl (fun hg => Ev.move (Opd.mk rfl)) rfl ?_
      refine St.gt _ rfl rfl (fun hg => Ev.lensl (Opd.gv rfl hg) Try.underlying22) rfl ?_
      refine St.gt _ rfl rfl (fun hg => Ev.eql (Opd.gv rfl hg) (Opd.mk rfl)) rfl ?_
      refine St.ev _ (Ev.and (Opd.mk rfl) (fun hp => Opd.gv rfl hp)) rfl ?_
      refine St.ev _ (Ev.assign (Opd.mk rfl)) rfl ?_
      refine St.nil ?_
      refine St.then_normal ?_
      refine St.rett ?_
      refine St.then_ret ?_
      refine St.rets [_] [] Try.results4 ⟨rfl, trivial⟩ ?_ (fun _ hw => hw.sub)
      exact be (by simp)

end Go.Proofs.Ytblmnncmkibhnaa
