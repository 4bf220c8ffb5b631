/-
  The walk of the reference's reader of fractions.
  Conditions: none.
-/
import Derived.Test.YteahhholjojfbaaDoorW8
set_option maxRecDepth 20000
set_option linter.unusedSimpArgs false
set_option linter.unusedVariables false
namespace Go.Proofs.YteahhholjojfbaaDoor
open Go Go.J

theorem FracRead_spec (s : Str) (hs : s.length ≤ 9223372036854775807) : FnV Tryd.prog 9 #[sv s] [] (frR (prP (refRead s))) := by
  refine FnV.body0 (args := [sv s]) 136 Tryd.func9 rfl Tryd.ntmps9 rfl (fun c => ?_)
  refine St.seq ?_
  refine St.rg ?_
  refine St.alloc zc23 rfl (fun b2 => ?_)
  refine St.alloc zc26 rfl (fun b3 => ?_)
  refine St.nil ?_
  refine St.then_normal ?_
  refine St.seq ?_
  refine St.rg ?_
  refine St.ev _ (Ev.build (ps := [(0, (Operand.const (Value.int IntKind.i64 11)))]) (Opds.cons (Opd.mk rfl) Opds.nil) (fun w => bld26_0 rfl w)) rfl ?_
  refine St.alloc zc26 rfl (fun b4 => ?_)
  refine St.storeA (Opd.mk rfl) (Opd.mk rfl) sz26 (by first | simp only [List.length_cons, List.length_nil] | rfl) rfl ?_
  refine St.nil ?_
  refine St.then_normal ?_
  refine St.seq ?_
  refine St.rg ?_
  refine St.ev _ (Ev.assign (Opd.mk rfl)) rfl ?_
  refine St.nil ?_
  refine St.then_normal ?_
  refine St.seq ?_
  refine St.rg ?_
  refine St.ev _ (Ev.build (ps := [(0, (Operand.const (Value.int IntKind.i64 0))), (1, (Operand.const (Value.int IntKind.i64 0)))]) (Opds.cons (Opd.mk rfl) (Opds.cons (Opd.mk rfl) Opds.nil)) (fun w => bld51_0_1 rfl rfl w)) rfl ?_
  refine St.alloc zc51 rfl (fun b6 => ?_)
  refine St.storeA (Opd.mk rfl) (Opd.mk rfl) sz51 (by first | simp only [List.length_cons, List.length_nil] | rfl) rfl ?_
  refine St.nil ?_
  refine St.then_normal ?_
  refine St.seq ?_
  refine St.rg ?_
  refine St.ev _ (Ev.build (ps := [(0, (Operand.const (Value.int IntKind.i64 0))), (1, (Operand.const (Value.int IntKind.i64 0)))]) (Opds.cons (Opd.mk rfl) (Opds.cons (Opd.mk rfl) Opds.nil)) (fun w => bld51_0_1 rfl rfl w)) rfl ?_
  refine St.alloc zc51 rfl (fun b7 => ?_)
  refine St.storeA (Opd.mk rfl) (Opd.mk rfl) sz51 (by first | simp only [List.length_cons, List.length_nil] | rfl) rfl ?_
  refine St.nil ?_
  refine St.then_normal ?_
  refine St.seq ?_
  refine St.rg ?_
  refine St.ev _ (Ev.assign (Opd.mk rfl)) rfl ?_
  refine St.nil ?_
  refine St.then_normal ?_
  refine St.seq ?_
  refine St.seq ?_
  refine St.rg ?_
  refine St.ev _ (Ev.assign (Opd.mk rfl)) rfl ?_
  refine St.nil ?_
  refine St.then_normal ?_
  refine St.block ?_
  refine St.blkEq b6 [iv (((rs0, 0) : RS × Nat).1.l0 : Int), iv (((rs0, 0) : RS × Nat).1.l1 : Int)] rfl ?_
  refine St.blkEq b7 [iv (((rs0, 0) : RS × Nat).1.m0 : Int), iv (((rs0, 0) : RS × Nat).1.m1 : Int)] rfl ?_
  refine St.loopH (ι := RS × Nat) (fun x T => (5, iv (pN x.1)) :: (8, .bool x.1.neg) :: (9, iv x.2) :: T) (fun x => [blk b6 (.cells #[iv x.1.l0, iv x.1.l1] 51 (0, 0)), blk b7 (.cells #[iv x.1.m0, iv x.1.m1] 51 (0, 0)), blk b4 (.cells #[iv 11, iv 0] 26 (0, 0)), blk b2 (.cells #[iv 0, iv 0] 23 (0, 0)), blk b3 (.cells #[iv 0, iv 0] 26 (0, 0))]) (fun x => x.2 ≤ s.length ∧ RI x.1 x.2 ∧ runR 0 rs0 s = runR x.2 x.1 (s.drop x.2)) (fun x => s.length - x.2) (rs0, 0) (Keep.cons 0 rfl (Keep.cons 2 rfl (Keep.cons 3 rfl (Keep.cons 4 rfl (Keep.cons 6 rfl (Keep.cons 7 rfl Keep.nil)))))) ⟨Nat.zero_le _, RI.zero, rfl⟩ (by repeat (first | exact Sub.nil | refine Sub.cons (by first | rfl | exact congrArg (fun z => some (iv z)) (by first | omega | (dsimp only; omega)) | exact congrArg (fun z => some (Value.bool z)) (by first | assumption | exact Eq.symm (by assumption))) ?_)) (fun _ hw => hw.sub) ?_
  intro x hphi
  obtain ⟨hi, hri, hrun⟩ := hphi
  have hcur := hri.cur
  refine St.seq ?_
  refine St.seq ?_
  refine St.rg ?_
  refine St.ev _ (Ev.move (Opd.mk rfl)) rfl ?_
  refine St.ev _ (Ev.move (Opd.mk rfl)) rfl ?_
  refine St.ev _ (Ev.lenstr (Opd.mk rfl) Tryd.underlying9) rfl ?_
  refine St.ev _ (Ev.lss (Opd.mk rfl) (Opd.mk rfl)) rfl ?_
  refine St.nil ?_
  refine St.then_normal ?_
  refine St.cond _ rfl (fun h18 => ?_) (fun h18 => ?_)
  · skip
    try simp only [Bool.and_true, Bool.true_and, decide_eq_true_eq, decide_eq_false_iff_not, Bool.and_eq_true, Bool.or_eq_true, Bool.and_eq_false_iff, Bool.or_eq_false_iff, Bool.not_eq_true', Bool.not_eq_false', beq_iff_eq, beq_eq_false_iff_ne, Int.not_lt, Int.not_le] at h18
    obtain ⟨ch, hch⟩ := some_of_lt (show x.2 < s.length by omega)
    have hc8 := ch.toNat_lt
    refine St.skip ?_
    refine St.then_normal ?_
    refine St.seq ?_
    refine St.block ?_
    refine St.seq ?_
    refine St.rg ?_
    refine St.ev _ (Ev.move (Opd.mk rfl)) rfl ?_
    refine St.ev _ (Ev.move (Opd.mk rfl)) rfl ?_
    refine St.ev _ (Ev.idxstr (k := x.2) (Opd.mk rfl) (Opd.mk rfl) Tryd.underlying9 (by omega) hch) rfl ?_
    refine St.ev _ (Ev.assign (Opd.mk rfl)) rfl ?_
    refine St.nil ?_
    refine St.then_normal ?_
    refine St.seq ?_
    refine St.rg ?_
    refine St.ev _ (Ev.move (Opd.mk rfl)) rfl ?_
    refine St.ev _ (Ev.eql (Opd.mk rfl) (Opd.mk rfl)) rfl ?_
    refine St.ev _ (Ev.move (Opd.mk rfl)) rfl ?_
    refine St.gt _ rfl rfl (fun hg => Ev.move (Opd.mk rfl)) rfl ?_
    refine St.gt _ rfl rfl (fun hg => Ev.eql (Opd.gv rfl hg) (Opd.mk rfl)) rfl ?_
    refine St.ev _ (Ev.and (Opd.mk rfl) (fun hp => Opd.gv rfl hp)) rfl ?_
    refine St.nil ?_
    refine St.then_normal ?_
    refine St.cond _ rfl (fun h29 => ?_) (fun h29 => ?_)
    · skip
      try simp only [Bool.and_true, Bool.true_and, decide_eq_true_eq, decide_eq_false_iff_not, Bool.and_eq_true, Bool.or_eq_true, Bool.and_eq_false_iff, Bool.or_eq_false_iff, Bool.not_eq_true', Bool.not_eq_false', beq_iff_eq, beq_eq_false_iff_ne, Int.not_lt, Int.not_le] at h29
      refine St.rg ?_
      refine St.ev _ (Ev.assign (Opd.mk rfl)) rfl ?_
      refine St.nil ?_
      refine St.in_normal ?_
      refine St.then_normal ?_
      refine St.rg ?_
      refine St.ev _ (Ev.move (Opd.mk rfl)) rfl ?_
      refine St.ev _ (Ev.add (Opd.mk rfl) (Opd.mk rfl) (by omega)) rfl ?_
      refine St.ev _ (Ev.assign (Opd.mk rfl)) rfl ?_
      refine St.nil ?_
      refine St.then_normal ?_
      refine St.againH ({ x.1 with neg := true }, x.2 + 1) ⟨by dsimp only; omega, hri.neg, rr_next hrun hch (st_neg h29)⟩ (by first | omega | (dsimp only; omega)) (by repeat (first | exact Sub.nil | refine Sub.cons (by first | rfl | exact congrArg (fun z => some (iv z)) (by first | omega | (dsimp only; omega)) | exact congrArg (fun z => some (Value.bool z)) (by first | assumption | exact Eq.symm (by assumption))) ?_)) (fun _ hw => hw.sub)
    · skip
      try simp only [Bool.and_true, Bool.true_and, decide_eq_true_eq, decide_eq_false_iff_not, Bool.and_eq_true, Bool.or_eq_true, Bool.and_eq_false_iff, Bool.or_eq_false_iff, Bool.not_eq_true', Bool.not_eq_false', beq_iff_eq, beq_eq_false_iff_ne, Int.not_lt, Int.not_le] at h29
      have g29 : ¬ ((ch.toNat : Int) = 45 ∧ (x.2 : Int) = 0) := by omega
      refine St.seq ?_
      refine St.rg ?_
      refine St.ev _ (Ev.move (Opd.mk rfl)) rfl ?_
      refine St.ev _ (Ev.eql (Opd.mk rfl) (Opd.mk rfl)) rfl ?_
      refine St.ev _ (Ev.move (Opd.mk rfl)) rfl ?_
      refine St.gt _ rfl rfl (fun hg => Ev.move (Opd.mk rfl)) rfl ?_
      refine St.gt _ rfl rfl (fun hg => Ev.eql (Opd.gv rfl hg) (Opd.mk rfl)) rfl ?_
      refine St.ev _ (Ev.and (Opd.mk rfl) (fun hp => Opd.gv rfl hp)) rfl ?_
      refine St.ev _ (Ev.move (Opd.mk rfl)) rfl ?_
      refine St.gt _ rfl rfl (fun hg => Ev.idxarr (k := 0) (Opd.mk rfl) (Opd.mk rfl) Tryd.underlying51 sz3 rfl (by decide)) rfl ?_
      refine St.gt _ rfl rfl (fun hg => Ev.ldb (Opd.gv rfl hg) Tryd.underlying3 trivial (by rfl)) rfl ?_
      refine St.gt _ rfl rfl (fun hg => Ev.gtr (Opd.gv rfl hg) (Opd.mk rfl)) rfl ?_
      refine St.ev _ (Ev.and (Opd.mk rfl) (fun hp => Opd.gv rfl hp)) rfl ?_
      refine St.nil ?_
      refine St.then_normal ?_
      refine St.cond _ rfl (fun h40 => ?_) (fun h40 => ?_)
      · skip
        try simp only [Bool.and_true, Bool.true_and, decide_eq_true_eq, decide_eq_false_iff_not, Bool.and_eq_true, Bool.or_eq_true, Bool.and_eq_false_iff, Bool.or_eq_false_iff, Bool.not_eq_true', Bool.not_eq_false', beq_iff_eq, beq_eq_false_iff_ne, Int.not_lt, Int.not_le] at h40
        refine St.rg ?_
        refine St.ev _ (Ev.assign (Opd.mk rfl)) rfl ?_
        refine St.nil ?_
        refine St.in_normal ?_
        refine St.then_normal ?_
        refine St.rg ?_
        refine St.ev _ (Ev.move (Opd.mk rfl)) rfl ?_
        refine St.ev _ (Ev.add (Opd.mk rfl) (Opd.mk rfl) (by omega)) rfl ?_
        refine St.ev _ (Ev.assign (Opd.mk rfl)) rfl ?_
        refine St.nil ?_
        refine St.then_normal ?_
        refine St.againH ({ x.1 with part := true }, x.2 + 1) ⟨by dsimp only; omega, hri.part, rr_next hrun hch (st_part g29 h40)⟩ (by first | omega | (dsimp only; omega)) (by repeat (first | exact Sub.nil | refine Sub.cons (by first | rfl | exact congrArg (fun z => some (iv z)) (by first | omega | (dsimp only; omega)) | exact congrArg (fun z => some (Value.bool z)) (by first | assumption | exact Eq.symm (by assumption))) ?_)) (fun _ hw => hw.sub)
      · skip
        try simp only [Bool.and_true, Bool.true_and, decide_eq_true_eq, decide_eq_false_iff_not, Bool.and_eq_true, Bool.or_eq_true, Bool.and_eq_false_iff, Bool.or_eq_false_iff, Bool.not_eq_true', Bool.not_eq_false', beq_iff_eq, beq_eq_false_iff_ne, Int.not_lt, Int.not_le] at h40
        have g40 : ¬ (((ch.toNat : Int) = 47 ∧ (pN x.1 : Int) = 0) ∧ (0 : Int) < x.1.m0) := by omega
        refine St.seq ?_
        refine St.rg ?_
        refine St.ev _ (Ev.move (Opd.mk rfl)) rfl ?_
        refine St.ev _ (Ev.geq (Opd.mk rfl) (Opd.mk rfl)) rfl ?_
        refine St.ev _ (Ev.move (Opd.mk rfl)) rfl ?_
        refine St.gt _ rfl rfl (fun hg => Ev.move (Opd.mk rfl)) rfl ?_
        refine St.gt _ rfl rfl (fun hg => Ev.leq (Opd.gv rfl hg) (Opd.mk rfl)) rfl ?_
        refine St.ev _ (Ev.and (Opd.mk rfl) (fun hp => Opd.gv rfl hp)) rfl ?_
        refine St.nil ?_
        refine St.then_normal ?_
        refine St.cond _ rfl (fun h46 => ?_) (fun h46 => ?_)
        · skip
          try simp only [Bool.and_true, Bool.true_and, decide_eq_true_eq, decide_eq_false_iff_not, Bool.and_eq_true, Bool.or_eq_true, Bool.and_eq_false_iff, Bool.or_eq_false_iff, Bool.not_eq_true', Bool.not_eq_false', beq_iff_eq, beq_eq_false_iff_ne, Int.not_lt, Int.not_le] at h46
          refine St.seq ?_
          refine St.seq ?_
          refine St.rg ?_
          refine St.ev _ (Ev.move (Opd.mk rfl)) rfl ?_
          refine St.ev _ (Ev.idxarr (k := pN x.1) (Opd.mk rfl) (Opd.mk rfl) Tryd.underlying51 sz3 rfl (pN_lt _)) rfl ?_
          refine St.ev _ (Ev.ldb (Opd.mk rfl) Tryd.underlying3 trivial (at_m _)) rfl ?_
          refine St.ev _ (Ev.gtr (Opd.mk rfl) (Opd.mk rfl)) rfl ?_
          refine St.ev _ (Ev.move (Opd.mk rfl)) rfl ?_
          refine St.gt _ rfl rfl (fun hg => Ev.move (Opd.mk rfl)) rfl ?_
          refine St.gt _ rfl rfl (fun hg => Ev.idxarr (k := pN x.1) (Opd.mk rfl) (Opd.gv rfl hg) Tryd.underlying51 sz3 rfl (pN_lt _)) rfl ?_
          refine St.gt _ rfl rfl (fun hg => Ev.ldb (Opd.gv rfl hg) Tryd.underlying3 trivial (at_l _)) rfl ?_
          refine St.gt _ rfl rfl (fun hg => Ev.eql (Opd.gv rfl hg) (Opd.mk rfl)) rfl ?_
          refine St.ev _ (Ev.and (Opd.mk rfl) (fun hp => Opd.gv rfl hp)) rfl ?_
          refine St.ev _ (Ev.move (Opd.mk rfl)) rfl ?_
          refine St.gf _ rfl rfl (fun hg => Ev.move (Opd.mk rfl)) rfl ?_
          refine St.gf _ rfl rfl (fun hg => Ev.idxarr (k := pN x.1) (Opd.mk rfl) (Opd.gv rfl hg) Tryd.underlying51 sz3 rfl (pN_lt _)) rfl ?_
          refine St.gf _ rfl rfl (fun hg => Ev.ldb (Opd.gv rfl hg) Tryd.underlying3 trivial (at_l _)) rfl ?_
          refine St.gf _ rfl rfl (fun hg => Ev.gtr (Opd.gv rfl hg) (Opd.mk rfl)) rfl ?_
          refine St.ev _ (Ev.or (Opd.mk rfl) (fun hp => Opd.gv rfl hp)) rfl ?_
          refine St.nil ?_
          refine St.then_normal ?_
          refine St.cond _ rfl (fun h62 => ?_) (fun h62 => ?_)
          · skip
            try simp only [Bool.and_true, Bool.true_and, decide_eq_true_eq, decide_eq_false_iff_not, Bool.and_eq_true, Bool.or_eq_true, Bool.and_eq_false_iff, Bool.or_eq_false_iff, Bool.not_eq_true', Bool.not_eq_false', beq_iff_eq, beq_eq_false_iff_ne, Int.not_lt, Int.not_le] at h62
            refine St.seq ?_
            refine St.par [b2, b3] mixed ?_
            refine SW.defer 0 (by repeat (first | refine NP.then ?_ | refine NP.inBlock ?_ | exact NP.body)) (by kernel_rfl) rfl (fun R => Ev.build (ps := []) (Opds.nil) (fun w => bld23_  w)) (by kernel_rfl) rfl ?_
            refine SW.defer 1 (by repeat (first | refine NP.then ?_ | refine NP.inBlock ?_ | exact NP.body)) (by kernel_rfl) rfl (fun R => Ev.ldbA (Opd.mk rfl) Tryd.underlying26 trivial (by exact sz26)) (by kernel_rfl) rfl ?_
            refine SW.turn1 (i := 2) (by kernel_rfl) rfl ?_
            refine St.storeA (Opd.mk rfl) (Opd.mk rfl) sz23 (by first | simp only [List.length_cons, List.length_nil] | rfl) rfl ?_
            refine St.nil ?_
            refine St.then_normal ?_
            refine SW.go ?_
            refine SW.turn1 (i := 3) (by kernel_rfl) rfl ?_
            refine St.storeA (Opd.mk rfl) (Opd.mk rfl) sz26 (by first | simp only [List.length_cons, List.length_nil] | rfl) rfl ?_
            refine St.nil ?_
            refine St.then_normal ?_
            refine SW.go ?_
            refine SW.done (by kernel_rfl) ?_
            refine St.then_normal ?_
            refine St.rett ?_
            refine St.then_ret ?_
            refine St.in_ret ?_
            refine St.then_ret ?_
            refine St.then_ret ?_
            refine St.in_ret ?_
            refine St.then_ret ?_
            refine St.rets [_, _] [] Tryd.results9 ⟨⟨_, _, _, _, rfl, InB.mem, .inl ⟨⟨_, Tryd.underlying23⟩, sz23, rfl⟩⟩, ⟨⟨_, _, _, _, rfl, InB.mem, .inl ⟨⟨_, Tryd.underlying26⟩, sz26, rfl⟩⟩, trivial⟩⟩ ?_ (fun _ hw => hw.sub)
            exact fr3e (by rw [rr_none hrun hch (st_bad1 g29 g40 h46 h62)]; rfl)
          · skip
            try simp only [Bool.and_true, Bool.true_and, decide_eq_true_eq, decide_eq_false_iff_not, Bool.and_eq_true, Bool.or_eq_true, Bool.and_eq_false_iff, Bool.or_eq_false_iff, Bool.not_eq_true', Bool.not_eq_false', beq_iff_eq, beq_eq_false_iff_ne, Int.not_lt, Int.not_le] at h62
            have g62 : ¬ (((0 : Int) < curM x.1 ∧ (curL x.1 : Int) = 0) ∨ (115292150460684697 : Int) < curL x.1) := by omega
            refine St.skip ?_
            refine St.then_normal ?_
            refine St.seq ?_
            refine St.rg ?_
            refine St.ev _ (Ev.move (Opd.mk rfl)) rfl ?_
            refine St.ev _ (Ev.move (Opd.mk rfl)) rfl ?_
            refine St.ev _ (Ev.idxarr (k := pN x.1) (Opd.mk rfl) (Opd.mk rfl) Tryd.underlying51 sz3 rfl (pN_lt _)) rfl ?_
            refine St.ev _ (Ev.ldb (Opd.mk rfl) Tryd.underlying3 trivial (at_l _)) rfl ?_
            refine St.ev _ (Ev.mul (Opd.mk rfl) (Opd.mk rfl) (by omega)) rfl ?_
            refine St.ev _ (Ev.move (Opd.mk rfl)) rfl ?_
            refine St.ev _ (Ev.subW (Opd.mk rfl) (Opd.mk rfl)) rfl ?_
            refine St.slot 71 (.int .u8 ((ch.toNat - 48 : Nat) : Int)) rfl (congrArg (Value.int .u8) (by rw [show ((ch.toNat : Nat) : Int) - 48 = ((ch.toNat - 48 : Nat) : Int) by omega, wrap8 (by omega)])) ?_
            refine St.ev _ (Ev.convUI (Opd.mk rfl) (by rw [Tryd.underlying5]; rfl) Tryd.underlying3 (by omega)) rfl ?_
            refine St.ev _ (Ev.add (Opd.mk rfl) (Opd.mk rfl) (by omega)) rfl ?_
            refine St.slot 73 (iv ((curL x.1 * 10 + (ch.toNat - 48) : Nat) : Int)) rfl (congrArg (fun z => iv z) (by omega)) ?_
            refine St.ev _ (Ev.idxarr (k := pN x.1) (Opd.mk rfl) (Opd.mk rfl) Tryd.underlying51 sz3 rfl (pN_lt _)) rfl ?_
            refine St.store1k [iv (addD x.1 (ch.toNat - 48)).l0, iv (addD x.1 (ch.toNat - 48)).l1] (Opd.mk rfl) (Opd.mk rfl) (set_l _ _) sz3 rfl (pN_lt _) ?_
            refine St.nil ?_
            refine St.then_normal ?_
            refine St.seq ?_
            refine St.seq ?_
            refine St.rg ?_
            refine St.ev _ (Ev.move (Opd.mk rfl)) rfl ?_
            refine St.ev _ (Ev.idxarr (k := pN x.1) (Opd.mk rfl) (Opd.mk rfl) Tryd.underlying51 sz3 rfl (pN_lt _)) rfl ?_
            refine St.ev _ (Ev.ldb (Opd.mk rfl) Tryd.underlying3 trivial (at_l2 _ _)) rfl ?_
            refine St.ev _ (Ev.gtr (Opd.mk rfl) (Opd.mk rfl)) rfl ?_
            refine St.nil ?_
            refine St.then_normal ?_
            refine St.cond _ rfl (fun h78 => ?_) (fun h78 => ?_)
            · skip
              try simp only [Bool.and_true, Bool.true_and, decide_eq_true_eq, decide_eq_false_iff_not, Bool.and_eq_true, Bool.or_eq_true, Bool.and_eq_false_iff, Bool.or_eq_false_iff, Bool.not_eq_true', Bool.not_eq_false', beq_iff_eq, beq_eq_false_iff_ne, Int.not_lt, Int.not_le] at h78
              refine St.seq ?_
              refine St.par [b2, b3] mixed ?_
              refine SW.defer 0 (by repeat (first | refine NP.then ?_ | refine NP.inBlock ?_ | exact NP.body)) (by kernel_rfl) rfl (fun R => Ev.build (ps := []) (Opds.nil) (fun w => bld23_  w)) (by kernel_rfl) rfl ?_
              refine SW.defer 1 (by repeat (first | refine NP.then ?_ | refine NP.inBlock ?_ | exact NP.body)) (by kernel_rfl) rfl (fun R => Ev.ldbA (Opd.mk rfl) Tryd.underlying26 trivial (by exact sz26)) (by kernel_rfl) rfl ?_
              refine SW.turn1 (i := 2) (by kernel_rfl) rfl ?_
              refine St.storeA (Opd.mk rfl) (Opd.mk rfl) sz23 (by first | simp only [List.length_cons, List.length_nil] | rfl) rfl ?_
              refine St.nil ?_
              refine St.then_normal ?_
              refine SW.go ?_
              refine SW.turn1 (i := 3) (by kernel_rfl) rfl ?_
              refine St.storeA (Opd.mk rfl) (Opd.mk rfl) sz26 (by first | simp only [List.length_cons, List.length_nil] | rfl) rfl ?_
              refine St.nil ?_
              refine St.then_normal ?_
              refine SW.go ?_
              refine SW.done (by kernel_rfl) ?_
              refine St.then_normal ?_
              refine St.rett ?_
              refine St.then_ret ?_
              refine St.in_ret ?_
              refine St.then_ret ?_
              refine St.then_ret ?_
              refine St.in_ret ?_
              refine St.then_ret ?_
              refine St.rets [_, _] [] Tryd.results9 ⟨⟨_, _, _, _, rfl, InB.mem, .inl ⟨⟨_, Tryd.underlying23⟩, sz23, rfl⟩⟩, ⟨⟨_, _, _, _, rfl, InB.mem, .inl ⟨⟨_, Tryd.underlying26⟩, sz26, rfl⟩⟩, trivial⟩⟩ ?_ (fun _ hw => hw.sub)
              exact fr3e (by rw [rr_none hrun hch (st_bad2 g29 g40 h46 g62 (by omega))]; rfl)
            · skip
              try simp only [Bool.and_true, Bool.true_and, decide_eq_true_eq, decide_eq_false_iff_not, Bool.and_eq_true, Bool.or_eq_true, Bool.and_eq_false_iff, Bool.or_eq_false_iff, Bool.not_eq_true', Bool.not_eq_false', beq_iff_eq, beq_eq_false_iff_ne, Int.not_lt, Int.not_le] at h78
              refine St.skip ?_
              refine St.then_normal ?_
              refine St.rg ?_
              refine St.ev _ (Ev.move (Opd.mk rfl)) rfl ?_
              refine St.ev _ (Ev.idxarr (k := pN x.1) (Opd.mk rfl) (Opd.mk rfl) Tryd.underlying51 sz3 rfl (pN_lt _)) rfl ?_
              refine St.ev _ (Ev.ldb (Opd.mk rfl) Tryd.underlying3 trivial (at_m _)) rfl ?_
              refine St.ev _ (Ev.add (Opd.mk rfl) (Opd.mk rfl) (by omega)) rfl ?_
              refine St.ev _ (Ev.idxarr (k := pN x.1) (Opd.mk rfl) (Opd.mk rfl) Tryd.underlying51 sz3 rfl (pN_lt _)) rfl ?_
              refine St.store1k [iv (addD x.1 (ch.toNat - 48)).m0, iv (addD x.1 (ch.toNat - 48)).m1] (Opd.mk rfl) (Opd.mk rfl) (set_m _ _) sz3 rfl (pN_lt _) ?_
              refine St.nil ?_
              refine St.in_normal ?_
              refine St.then_normal ?_
              refine St.rg ?_
              refine St.ev _ (Ev.move (Opd.mk rfl)) rfl ?_
              refine St.ev _ (Ev.add (Opd.mk rfl) (Opd.mk rfl) (by omega)) rfl ?_
              refine St.ev _ (Ev.assign (Opd.mk rfl)) rfl ?_
              refine St.nil ?_
              refine St.then_normal ?_
              refine St.slot 5 (iv (pN (addD x.1 (ch.toNat - 48)))) rfl (congrArg (fun (z : Nat) => iv z) (pN_add _ _)) ?_
              refine St.slot 8 (.bool (addD x.1 (ch.toNat - 48)).neg) rfl (congrArg Value.bool (neg_add _ _)) ?_
              refine St.againH (addD x.1 (ch.toNat - 48), x.2 + 1) ⟨by dsimp only; omega, hri.add (by omega), rr_next hrun hch (st_add g29 g40 h46 g62 (by omega))⟩ (by first | omega | (dsimp only; omega)) (by repeat (first | exact Sub.nil | refine Sub.cons (by first | rfl | exact congrArg (fun z => some (iv z)) (by first | omega | (dsimp only; omega)) | exact congrArg (fun z => some (Value.bool z)) (by first | assumption | exact Eq.symm (by assumption))) ?_)) (fun _ hw => hw.sub)
        · skip
          try simp only [Bool.and_true, Bool.true_and, decide_eq_true_eq, decide_eq_false_iff_not, Bool.and_eq_true, Bool.or_eq_true, Bool.and_eq_false_iff, Bool.or_eq_false_iff, Bool.not_eq_true', Bool.not_eq_false', beq_iff_eq, beq_eq_false_iff_ne, Int.not_lt, Int.not_le] at h46
          have g46 : ¬ ((48 : Int) ≤ ch.toNat ∧ (ch.toNat : Int) ≤ 57) := by omega
          refine St.seq ?_
          refine St.par [b2, b3] mixed ?_
          refine SW.defer 0 (by repeat (first | refine NP.then ?_ | refine NP.inBlock ?_ | exact NP.body)) (by kernel_rfl) rfl (fun R => Ev.build (ps := []) (Opds.nil) (fun w => bld23_  w)) (by kernel_rfl) rfl ?_
          refine SW.defer 1 (by repeat (first | refine NP.then ?_ | refine NP.inBlock ?_ | exact NP.body)) (by kernel_rfl) rfl (fun R => Ev.ldbA (Opd.mk rfl) Tryd.underlying26 trivial (by exact sz26)) (by kernel_rfl) rfl ?_
          refine SW.turn1 (i := 2) (by kernel_rfl) rfl ?_
          refine St.storeA (Opd.mk rfl) (Opd.mk rfl) sz23 (by first | simp only [List.length_cons, List.length_nil] | rfl) rfl ?_
          refine St.nil ?_
          refine St.then_normal ?_
          refine SW.go ?_
          refine SW.turn1 (i := 3) (by kernel_rfl) rfl ?_
          refine St.storeA (Opd.mk rfl) (Opd.mk rfl) sz26 (by first | simp only [List.length_cons, List.length_nil] | rfl) rfl ?_
          refine St.nil ?_
          refine St.then_normal ?_
          refine SW.go ?_
          refine SW.done (by kernel_rfl) ?_
          refine St.then_normal ?_
          refine St.rett ?_
          refine St.in_ret ?_
          refine St.then_ret ?_
          refine St.then_ret ?_
          refine St.in_ret ?_
          refine St.then_ret ?_
          refine St.rets [_, _] [] Tryd.results9 ⟨⟨_, _, _, _, rfl, InB.mem, .inl ⟨⟨_, Tryd.underlying23⟩, sz23, rfl⟩⟩, ⟨⟨_, _, _, _, rfl, InB.mem, .inl ⟨⟨_, Tryd.underlying26⟩, sz26, rfl⟩⟩, trivial⟩⟩ ?_ (fun _ hw => hw.sub)
          exact fr3e (by rw [rr_none hrun hch (st_bad g29 g40 g46)]; rfl)
  · skip
    try simp only [Bool.and_true, Bool.true_and, decide_eq_true_eq, decide_eq_false_iff_not, Bool.and_eq_true, Bool.or_eq_true, Bool.and_eq_false_iff, Bool.or_eq_false_iff, Bool.not_eq_true', Bool.not_eq_false', beq_iff_eq, beq_eq_false_iff_ne, Int.not_lt, Int.not_le] at h18
    refine St.exit ?_
    refine St.then_exit ?_
    refine St.then_exit ?_
    refine St.in_hit ?_
    refine St.then_normal ?_
    refine St.seq ?_
    refine St.seq ?_
    have hend := rr_end hrun (by omega)
    refine St.rg ?_
    refine St.ev _ (Ev.idxarr (k := 0) (Opd.mk rfl) (Opd.mk rfl) Tryd.underlying51 sz3 rfl (by decide)) rfl ?_
    refine St.ev _ (Ev.ldb (Opd.mk rfl) Tryd.underlying3 trivial (by rfl)) rfl ?_
    refine St.ev _ (Ev.eql (Opd.mk rfl) (Opd.mk rfl)) rfl ?_
    refine St.ev _ (Ev.move (Opd.mk rfl)) rfl ?_
    refine St.gf _ rfl rfl (fun hg => Ev.move (Opd.mk rfl)) rfl ?_
    refine St.gf _ rfl rfl (fun hg => Ev.eql (Opd.gv rfl hg) (Opd.mk rfl)) rfl ?_
    refine St.gf _ rfl rfl (fun hg => Ev.move (Opd.gv rfl hg)) rfl ?_
    refine St.gct _ rfl rfl (fun hg => Ev.idxarr (k := 1) (Opd.mk rfl) (Opd.mk rfl) Tryd.underlying51 sz3 rfl (by decide)) rfl ?_
    refine St.gct _ rfl rfl (fun hg => Ev.ldb (Opd.gv rfl hg) Tryd.underlying3 trivial (by rfl)) rfl ?_
    refine St.gct _ rfl rfl (fun hg => Ev.eql (Opd.gv rfl hg) (Opd.mk rfl)) rfl ?_
    refine St.gct _ rfl rfl (fun hg => Ev.move (Opd.gv rfl hg)) rfl ?_
    refine St.gcf _ rfl rfl (fun hg => Ev.idxarr (k := 1) (Opd.mk rfl) (Opd.mk rfl) Tryd.underlying51 sz3 rfl (by decide)) rfl ?_
    refine St.gcf _ rfl rfl (fun hg => Ev.ldb (Opd.gv rfl hg) Tryd.underlying3 trivial (by rfl)) rfl ?_
    refine St.gcf _ rfl rfl (fun hg => Ev.lss (Opd.gv rfl hg) (Opd.mk rfl)) rfl ?_
    refine St.gct _ rfl rfl (fun hg => Ev.or (Opd.gv rfl hg) (fun hp => Opd.gv rfl (and_i hg hp))) rfl ?_
    refine St.gf _ rfl rfl (fun hg => Ev.and (Opd.gv rfl hg) (fun hp => Opd.gv rfl (and_i hg hp))) rfl ?_
    refine St.ev _ (Ev.or (Opd.mk rfl) (fun hp => Opd.gv rfl hp)) rfl ?_
    refine St.ev _ (Ev.move (Opd.mk rfl)) rfl ?_
    refine St.gf _ rfl rfl (fun hg => Ev.move (Opd.mk rfl)) rfl ?_
    refine St.gf _ rfl rfl (fun hg => Ev.move (Opd.gv rfl hg)) rfl ?_
    refine St.gct _ rfl rfl (fun hg => Ev.idxarr (k := 0) (Opd.mk rfl) (Opd.mk rfl) Tryd.underlying51 sz3 rfl (by decide)) rfl ?_
    refine St.gct _ rfl rfl (fun hg => Ev.ldb (Opd.gv rfl hg) Tryd.underlying3 trivial (by rfl)) rfl ?_
    refine St.gct _ rfl rfl (fun hg => Ev.eql (Opd.gv rfl hg) (Opd.mk rfl)) rfl ?_
    refine St.gf _ rfl rfl (fun hg => Ev.and (Opd.gv rfl hg) (fun hp => Opd.gv rfl (and_i hg hp))) rfl ?_
    refine St.ev _ (Ev.or (Opd.mk rfl) (fun hp => Opd.gv rfl hp)) rfl ?_
    refine St.nil ?_
    refine St.then_normal ?_
    refine St.cond _ rfl (fun h112 => ?_) (fun h112 => ?_)
    · skip
      try simp only [Bool.and_true, Bool.true_and, decide_eq_true_eq, decide_eq_false_iff_not, Bool.and_eq_true, Bool.or_eq_true, Bool.and_eq_false_iff, Bool.or_eq_false_iff, Bool.not_eq_true', Bool.not_eq_false', beq_iff_eq, beq_eq_false_iff_ne, Int.not_lt, Int.not_le] at h112
      refine St.seq ?_
      refine St.par [b2, b3] mixed ?_
      refine SW.defer 0 (by repeat (first | refine NP.then ?_ | refine NP.inBlock ?_ | exact NP.body)) (by kernel_rfl) rfl (fun R => Ev.build (ps := []) (Opds.nil) (fun w => bld23_  w)) (by kernel_rfl) rfl ?_
      refine SW.defer 1 (by repeat (first | refine NP.then ?_ | refine NP.inBlock ?_ | exact NP.body)) (by kernel_rfl) rfl (fun R => Ev.ldbA (Opd.mk rfl) Tryd.underlying26 trivial (by exact sz26)) (by kernel_rfl) rfl ?_
      refine SW.turn1 (i := 2) (by kernel_rfl) rfl ?_
      refine St.storeA (Opd.mk rfl) (Opd.mk rfl) sz23 (by first | simp only [List.length_cons, List.length_nil] | rfl) rfl ?_
      refine St.nil ?_
      refine St.then_normal ?_
      refine SW.go ?_
      refine SW.turn1 (i := 3) (by kernel_rfl) rfl ?_
      refine St.storeA (Opd.mk rfl) (Opd.mk rfl) sz26 (by first | simp only [List.length_cons, List.length_nil] | rfl) rfl ?_
      refine St.nil ?_
      refine St.then_normal ?_
      refine SW.go ?_
      refine SW.done (by kernel_rfl) ?_
      refine St.then_normal ?_
      refine St.rett ?_
      refine St.then_ret ?_
      refine St.rets [_, _] [] Tryd.results9 ⟨⟨_, _, _, _, rfl, InB.mem, .inl ⟨⟨_, Tryd.underlying23⟩, sz23, rfl⟩⟩, ⟨⟨_, _, _, _, rfl, InB.mem, .inl ⟨⟨_, Tryd.underlying26⟩, sz26, rfl⟩⟩, trivial⟩⟩ ?_ (fun _ hw => hw.sub)
      exact fr3e (by rw [hend, fin_bad h112]; rfl)
    · skip
      try simp only [Bool.and_true, Bool.true_and, decide_eq_true_eq, decide_eq_false_iff_not, Bool.and_eq_true, Bool.or_eq_true, Bool.and_eq_false_iff, Bool.or_eq_false_iff, Bool.not_eq_true', Bool.not_eq_false', beq_iff_eq, beq_eq_false_iff_ne, Int.not_lt, Int.not_le] at h112
      have hfin := fin_if h112
      refine St.skip ?_
      refine St.then_normal ?_
      refine St.seq ?_
      refine St.rg ?_
      refine St.ev _ (Ev.idxarr (k := 0) (Opd.mk rfl) (Opd.mk rfl) Tryd.underlying51 sz3 rfl (by decide)) rfl ?_
      refine St.ev _ (Ev.ldb (Opd.mk rfl) Tryd.underlying3 trivial (by rfl)) rfl ?_
      refine St.ev _ (Ev.build (ps := [(0, (Operand.tmp 116)), (1, (Operand.const (Value.int IntKind.i64 1)))]) (Opds.cons (Opd.mk rfl) (Opds.cons (Opd.mk rfl) Opds.nil)) (fun w => bld23_0_1 rfl rfl w)) rfl ?_
      refine St.alloc zc23 rfl (fun b11 => ?_)
      refine St.storeA (Opd.mk rfl) (Opd.mk rfl) sz23 (by first | simp only [List.length_cons, List.length_nil] | rfl) rfl ?_
      refine St.nil ?_
      refine St.then_normal ?_
      refine St.seq ?_
      refine St.seq ?_
      refine St.rg ?_
      refine St.ev _ (Ev.move (Opd.mk rfl)) rfl ?_
      refine St.nil ?_
      refine St.then_normal ?_
      refine St.cond _ rfl (fun h118 => ?_) (fun h118 => ?_)
      · skip
        try simp only [Bool.and_true, Bool.true_and, decide_eq_true_eq, decide_eq_false_iff_not, Bool.and_eq_true, Bool.or_eq_true, Bool.and_eq_false_iff, Bool.or_eq_false_iff, Bool.not_eq_true', Bool.not_eq_false', beq_iff_eq, beq_eq_false_iff_ne, Int.not_lt, Int.not_le] at h118
        have hng : x.1.neg = true := by simpa using h118
        have hl0 := hri.l0
        refine St.rg ?_
        refine St.ev _ (Ev.idxarr (k := 0) (Opd.mk rfl) (Opd.mk rfl) Tryd.underlying51 sz3 rfl (by decide)) rfl ?_
        refine St.ev _ (Ev.ldb (Opd.mk rfl) Tryd.underlying3 trivial (by rfl)) rfl ?_
        refine St.ev _ (Ev.neg (Opd.mk rfl) (by omega)) rfl ?_
        refine St.ev _ (Ev.fldb0 (Opd.mk rfl) fo23_0) rfl ?_
        refine St.store1 (Opd.mk rfl) (Opd.mk rfl) sz3 rfl (by rfl) ?_
        refine St.nil ?_
        refine St.then_normal ?_
        refine St.seq ?_
        refine St.seq ?_
        refine St.rg ?_
        refine St.ev _ (Ev.move (Opd.mk rfl)) rfl ?_
        refine St.ev _ (Ev.eql (Opd.mk rfl) (Opd.mk rfl)) rfl ?_
        refine St.nil ?_
        refine St.then_normal ?_
        refine St.cond _ rfl (fun h124 => ?_) (fun h124 => ?_)
        · skip
          try simp only [Bool.and_true, Bool.true_and, decide_eq_true_eq, decide_eq_false_iff_not, Bool.and_eq_true, Bool.or_eq_true, Bool.and_eq_false_iff, Bool.or_eq_false_iff, Bool.not_eq_true', Bool.not_eq_false', beq_iff_eq, beq_eq_false_iff_ne, Int.not_lt, Int.not_le] at h124
          refine St.rg ?_
          refine St.ev _ (Ev.idxarr (k := 1) (Opd.mk rfl) (Opd.mk rfl) Tryd.underlying51 sz3 rfl (by decide)) rfl ?_
          refine St.ev _ (Ev.ldb (Opd.mk rfl) Tryd.underlying3 trivial (by rfl)) rfl ?_
          refine St.ev _ (Ev.fldb0 (Opd.mk rfl) fo23_1) rfl ?_
          refine St.store1 (Opd.mk rfl) (Opd.mk rfl) sz3 rfl (by rfl) ?_
          refine St.nil ?_
          refine St.then_normal ?_
          refine St.seq ?_
          refine St.seq ?_
          refine St.blkEq b11 [iv (finX x.1).1, iv (finX x.1).2] (by first | exact fin_11 hng h124 | exact fin_10 hng h124 | exact fin_01 hng h124 | exact fin_00 hng h124) ?_
          refine St.rg ?_
          refine St.ev _ (Ev.ldbA (Opd.mk rfl) Tryd.underlying23 trivial (by exact sz23)) rfl ?_
          refine St.ev _ (Ev.call (FracFault_spec (finX x.1).1 (finX x.1).2 (-1) (fin_x hri).1 (fin_x hri).2) cb6 (Opds.cons (Opd.mk rfl) (Opds.cons (Opd.mk rfl) Opds.nil))) rfl ?_
          refine St.ev _ (Ev.field1 (Opd.mk rfl) Tryd.underlying26 rfl (by first | rw [Tryd.underlying3] | (dsimp only; rw [Tryd.underlying3]) | kernel_rfl) rfl) rfl ?_
          refine St.ev _ (Ev.neq (Opd.mk rfl) (Opd.mk rfl)) rfl ?_
          refine St.nil ?_
          refine St.then_normal ?_
          refine St.cond _ rfl (fun h131 => ?_) (fun h131 => ?_)
          · skip
            try simp only [Bool.and_true, Bool.true_and, decide_eq_true_eq, decide_eq_false_iff_not, Bool.and_eq_true, Bool.or_eq_true, Bool.and_eq_false_iff, Bool.or_eq_false_iff, Bool.not_eq_true', Bool.not_eq_false', beq_iff_eq, beq_eq_false_iff_ne, Int.not_lt, Int.not_le] at h131
            refine St.seq ?_
            refine St.par [b2, b3] mixed ?_
            refine SW.defer 0 (by repeat (first | refine NP.then ?_ | refine NP.inBlock ?_ | exact NP.body)) (by kernel_rfl) rfl (fun R => Ev.build (ps := []) (Opds.nil) (fun w => bld23_  w)) (by kernel_rfl) rfl ?_
            refine SW.defer 1 (by repeat (first | refine NP.then ?_ | refine NP.inBlock ?_ | exact NP.body)) (by kernel_rfl) rfl (fun R => Ev.ldbA (Opd.mk rfl) Tryd.underlying26 trivial (by exact sz26)) (by kernel_rfl) rfl ?_
            refine SW.turn1 (i := 2) (by kernel_rfl) rfl ?_
            refine St.storeA (Opd.mk rfl) (Opd.mk rfl) sz23 (by first | simp only [List.length_cons, List.length_nil] | rfl) rfl ?_
            refine St.nil ?_
            refine St.then_normal ?_
            refine SW.go ?_
            refine SW.turn1 (i := 3) (by kernel_rfl) rfl ?_
            refine St.storeA (Opd.mk rfl) (Opd.mk rfl) sz26 (by first | simp only [List.length_cons, List.length_nil] | rfl) rfl ?_
            refine St.nil ?_
            refine St.then_normal ?_
            refine SW.go ?_
            refine SW.done (by kernel_rfl) ?_
            refine St.then_normal ?_
            refine St.rett ?_
            refine St.then_ret ?_
            refine St.rets [_, _] [] Tryd.results9 ⟨⟨_, _, _, _, rfl, InB.mem, .inl ⟨⟨_, Tryd.underlying23⟩, sz23, rfl⟩⟩, ⟨⟨_, _, _, _, rfl, InB.mem, .inl ⟨⟨_, Tryd.underlying26⟩, sz26, rfl⟩⟩, trivial⟩⟩ ?_ (fun _ hw => hw.sub)
            exact fr3e (by rw [hend, hfin, if_neg (by simpa using h131)]; rfl)
          · skip
            try simp only [Bool.and_true, Bool.true_and, decide_eq_true_eq, decide_eq_false_iff_not, Bool.and_eq_true, Bool.or_eq_true, Bool.and_eq_false_iff, Bool.or_eq_false_iff, Bool.not_eq_true', Bool.not_eq_false', beq_iff_eq, beq_eq_false_iff_ne, Int.not_lt, Int.not_le] at h131
            refine St.skip ?_
            refine St.then_normal ?_
            refine St.seq ?_
            refine St.rg ?_
            refine St.ev _ (Ev.ldbA (Opd.mk rfl) Tryd.underlying23 trivial (by exact sz23)) rfl ?_
            refine St.ev _ (Ev.build (ps := []) (Opds.nil) (fun w => bld26_  w)) rfl ?_
            refine St.storeA (Opd.mk rfl) (Opd.mk rfl) sz23 (by first | simp only [List.length_cons, List.length_nil] | rfl) rfl ?_
            refine St.storeA (Opd.mk rfl) (Opd.mk rfl) sz26 (by first | simp only [List.length_cons, List.length_nil] | rfl) rfl ?_
            refine St.nil ?_
            refine St.then_normal ?_
            refine St.rett ?_
            refine St.rets [_, _] [] Tryd.results9 ⟨⟨_, _, _, _, rfl, InB.mem, .inl ⟨⟨_, Tryd.underlying23⟩, sz23, rfl⟩⟩, ⟨⟨_, _, _, _, rfl, InB.mem, .inl ⟨⟨_, Tryd.underlying26⟩, sz26, rfl⟩⟩, trivial⟩⟩ ?_ (fun _ hw => hw.sub)
            exact fr3e (by rw [hend, hfin, if_pos (by simpa using h131)]; rfl)
        · skip
          try simp only [Bool.and_true, Bool.true_and, decide_eq_true_eq, decide_eq_false_iff_not, Bool.and_eq_true, Bool.or_eq_true, Bool.and_eq_false_iff, Bool.or_eq_false_iff, Bool.not_eq_true', Bool.not_eq_false', beq_iff_eq, beq_eq_false_iff_ne, Int.not_lt, Int.not_le] at h124
          refine St.skip ?_
          refine St.then_normal ?_
          refine St.seq ?_
          refine St.seq ?_
          refine St.blkEq b11 [iv (finX x.1).1, iv (finX x.1).2] (by first | exact fin_11 hng h124 | exact fin_10 hng h124 | exact fin_01 hng h124 | exact fin_00 hng h124) ?_
          refine St.rg ?_
          refine St.ev _ (Ev.ldbA (Opd.mk rfl) Tryd.underlying23 trivial (by exact sz23)) rfl ?_
          refine St.ev _ (Ev.call (FracFault_spec (finX x.1).1 (finX x.1).2 (-1) (fin_x hri).1 (fin_x hri).2) cb6 (Opds.cons (Opd.mk rfl) (Opds.cons (Opd.mk rfl) Opds.nil))) rfl ?_
          refine St.ev _ (Ev.field1 (Opd.mk rfl) Tryd.underlying26 rfl (by first | rw [Tryd.underlying3] | (dsimp only; rw [Tryd.underlying3]) | kernel_rfl) rfl) rfl ?_
          refine St.ev _ (Ev.neq (Opd.mk rfl) (Opd.mk rfl)) rfl ?_
          refine St.nil ?_
          refine St.then_normal ?_
          refine St.cond _ rfl (fun h131 => ?_) (fun h131 => ?_)
          · skip
            try simp only [Bool.and_true, Bool.true_and, decide_eq_true_eq, decide_eq_false_iff_not, Bool.and_eq_true, Bool.or_eq_true, Bool.and_eq_false_iff, Bool.or_eq_false_iff, Bool.not_eq_true', Bool.not_eq_false', beq_iff_eq, beq_eq_false_iff_ne, Int.not_lt, Int.not_le] at h131
            refine St.seq ?_
            refine St.par [b2, b3] mixed ?_
            refine SW.defer 0 (by repeat (first | refine NP.then ?_ | refine NP.inBlock ?_ | exact NP.body)) (by kernel_rfl) rfl (fun R => Ev.build (ps := []) (Opds.nil) (fun w => bld23_  w)) (by kernel_rfl) rfl ?_
            refine SW.defer 1 (by repeat (first | refine NP.then ?_ | refine NP.inBlock ?_ | exact NP.body)) (by kernel_rfl) rfl (fun R => Ev.ldbA (Opd.mk rfl) Tryd.underlying26 trivial (by exact sz26)) (by kernel_rfl) rfl ?_
            refine SW.turn1 (i := 2) (by kernel_rfl) rfl ?_
            refine St.storeA (Opd.mk rfl) (Opd.mk rfl) sz23 (by first | simp only [List.length_cons, List.length_nil] | rfl) rfl ?_
            refine St.nil ?_
            refine St.then_normal ?_
            refine SW.go ?_
            refine SW.turn1 (i := 3) (by kernel_rfl) rfl ?_
            refine St.storeA (Opd.mk rfl) (Opd.mk rfl) sz26 (by first | simp only [List.length_cons, List.length_nil] | rfl) rfl ?_
            refine St.nil ?_
            refine St.then_normal ?_
            refine SW.go ?_
            refine SW.done (by kernel_rfl) ?_
            refine St.then_normal ?_
            refine St.rett ?_
            refine St.then_ret ?_
            refine St.rets [_, _] [] Tryd.results9 ⟨⟨_, _, _, _, rfl, InB.mem, .inl ⟨⟨_, Tryd.underlying23⟩, sz23, rfl⟩⟩, ⟨⟨_, _, _, _, rfl, InB.mem, .inl ⟨⟨_, Tryd.underlying26⟩, sz26, rfl⟩⟩, trivial⟩⟩ ?_ (fun _ hw => hw.sub)
            exact fr3e (by rw [hend, hfin, if_neg (by simpa using h131)]; rfl)
          · skip
            try simp only [Bool.and_true, Bool.true_and, decide_eq_true_eq, decide_eq_false_iff_not, Bool.and_eq_true, Bool.or_eq_true, Bool.and_eq_false_iff, Bool.or_eq_false_iff, Bool.not_eq_true', Bool.not_eq_false', beq_iff_eq, beq_eq_false_iff_ne, Int.not_lt, Int.not_le] at h131
            refine St.skip ?_
            refine St.then_normal ?_
            refine St.seq ?_
            refine St.rg ?_
            refine St.ev _ (Ev.ldbA (Opd.mk rfl) Tryd.underlying23 trivial (by exact sz23)) rfl ?_
            refine St.ev _ (Ev.build (ps := []) (Opds.nil) (fun w => bld26_  w)) rfl ?_
            refine St.storeA (Opd.mk rfl) (Opd.mk rfl) sz23 (by first | simp only [List.length_cons, List.length_nil] | rfl) rfl ?_
            refine St.storeA (Opd.mk rfl) (Opd.mk rfl) sz26 (by first | simp only [List.length_cons, List.length_nil] | rfl) rfl ?_
            refine St.nil ?_
            refine St.then_normal ?_
            refine St.rett ?_
            refine St.rets [_, _] [] Tryd.results9 ⟨⟨_, _, _, _, rfl, InB.mem, .inl ⟨⟨_, Tryd.underlying23⟩, sz23, rfl⟩⟩, ⟨⟨_, _, _, _, rfl, InB.mem, .inl ⟨⟨_, Tryd.underlying26⟩, sz26, rfl⟩⟩, trivial⟩⟩ ?_ (fun _ hw => hw.sub)
            exact fr3e (by rw [hend, hfin, if_pos (by simpa using h131)]; rfl)
      · skip
        try simp only [Bool.and_true, Bool.true_and, decide_eq_true_eq, decide_eq_false_iff_not, Bool.and_eq_true, Bool.or_eq_true, Bool.and_eq_false_iff, Bool.or_eq_false_iff, Bool.not_eq_true', Bool.not_eq_false', beq_iff_eq, beq_eq_false_iff_ne, Int.not_lt, Int.not_le] at h118
        have hng : x.1.neg = false := by simpa using h118
        refine St.skip ?_
        refine St.then_normal ?_
        refine St.seq ?_
        refine St.seq ?_
        refine St.rg ?_
        refine St.ev _ (Ev.move (Opd.mk rfl)) rfl ?_
        refine St.ev _ (Ev.eql (Opd.mk rfl) (Opd.mk rfl)) rfl ?_
        refine St.nil ?_
        refine St.then_normal ?_
        refine St.cond _ rfl (fun h124 => ?_) (fun h124 => ?_)
        · skip
          try simp only [Bool.and_true, Bool.true_and, decide_eq_true_eq, decide_eq_false_iff_not, Bool.and_eq_true, Bool.or_eq_true, Bool.and_eq_false_iff, Bool.or_eq_false_iff, Bool.not_eq_true', Bool.not_eq_false', beq_iff_eq, beq_eq_false_iff_ne, Int.not_lt, Int.not_le] at h124
          refine St.rg ?_
          refine St.ev _ (Ev.idxarr (k := 1) (Opd.mk rfl) (Opd.mk rfl) Tryd.underlying51 sz3 rfl (by decide)) rfl ?_
          refine St.ev _ (Ev.ldb (Opd.mk rfl) Tryd.underlying3 trivial (by rfl)) rfl ?_
          refine St.ev _ (Ev.fldb0 (Opd.mk rfl) fo23_1) rfl ?_
          refine St.store1 (Opd.mk rfl) (Opd.mk rfl) sz3 rfl (by rfl) ?_
          refine St.nil ?_
          refine St.then_normal ?_
          refine St.seq ?_
          refine St.seq ?_
          refine St.blkEq b11 [iv (finX x.1).1, iv (finX x.1).2] (by first | exact fin_11 hng h124 | exact fin_10 hng h124 | exact fin_01 hng h124 | exact fin_00 hng h124) ?_
          refine St.rg ?_
          refine St.ev _ (Ev.ldbA (Opd.mk rfl) Tryd.underlying23 trivial (by exact sz23)) rfl ?_
          refine St.ev _ (Ev.call (FracFault_spec (finX x.1).1 (finX x.1).2 (-1) (fin_x hri).1 (fin_x hri).2) cb6 (Opds.cons (Opd.mk rfl) (Opds.cons (Opd.mk rfl) Opds.nil))) rfl ?_
          refine St.ev _ (Ev.field1 (Opd.mk rfl) Tryd.underlying26 rfl (by first | rw [Tryd.underlying3] | (dsimp only; rw [Tryd.underlying3]) | kernel_rfl) rfl) rfl ?_
          refine St.ev _ (Ev.neq (Opd.mk rfl) (Opd.mk rfl)) rfl ?_
          refine St.nil ?_
          refine St.then_normal ?_
          refine St.cond _ rfl (fun h131 => ?_) (fun h131 => ?_)
          · skip
            try simp only [Bool.and_true, Bool.true_and, decide_eq_true_eq, decide_eq_false_iff_not, Bool.and_eq_true, Bool.or_eq_true, Bool.and_eq_false_iff, Bool.or_eq_false_iff, Bool.not_eq_true', Bool.not_eq_false', beq_iff_eq, beq_eq_false_iff_ne, Int.not_lt, Int.not_le] at h131
            refine St.seq ?_
            refine St.par [b2, b3] mixed ?_
            refine SW.defer 0 (by repeat (first | refine NP.then ?_ | refine NP.inBlock ?_ | exact NP.body)) (by kernel_rfl) rfl (fun R => Ev.build (ps := []) (Opds.nil) (fun w => bld23_  w)) (by kernel_rfl) rfl ?_
            refine SW.defer 1 (by repeat (first | refine NP.then ?_ | refine NP.inBlock ?_ | exact NP.body)) (by kernel_rfl) rfl (fun R => Ev.ldbA (Opd.mk rfl) Tryd.underlying26 trivial (by exact sz26)) (by kernel_rfl) rfl ?_
            refine SW.turn1 (i := 2) (by kernel_rfl) rfl ?_
            refine St.storeA (Opd.mk rfl) (Opd.mk rfl) sz23 (by first | simp only [List.length_cons, List.length_nil] | rfl) rfl ?_
            refine St.nil ?_
            refine St.then_normal ?_
            refine SW.go ?_
            refine SW.turn1 (i := 3) (by kernel_rfl) rfl ?_
            refine St.storeA (Opd.mk rfl) (Opd.mk rfl) sz26 (by first | simp only [List.length_cons, List.length_nil] | rfl) rfl ?_
            refine St.nil ?_
            refine St.then_normal ?_
            refine SW.go ?_
            refine SW.done (by kernel_rfl) ?_
            refine St.then_normal ?_
            refine St.rett ?_
            refine St.then_ret ?_
            refine St.rets [_, _] [] Tryd.results9 ⟨⟨_, _, _, _, rfl, InB.mem, .inl ⟨⟨_, Tryd.underlying23⟩, sz23, rfl⟩⟩, ⟨⟨_, _, _, _, rfl, InB.mem, .inl ⟨⟨_, Tryd.underlying26⟩, sz26, rfl⟩⟩, trivial⟩⟩ ?_ (fun _ hw => hw.sub)
            exact fr3e (by rw [hend, hfin, if_neg (by simpa using h131)]; rfl)
          · skip
            try simp only [Bool.and_true, Bool.true_and, decide_eq_true_eq, decide_eq_false_iff_not, Bool.and_eq_true, Bool.or_eq_true, Bool.and_eq_false_iff, Bool.or_eq_false_iff, Bool.not_eq_true', Bool.not_eq_false', beq_iff_eq, beq_eq_false_iff_ne, Int.not_lt, Int.not_le] at h131
            refine St.skip ?_
            refine St.then_normal ?_
            refine St.seq ?_
            refine St.rg ?_
            refine St.ev _ (Ev.ldbA (Opd.mk rfl) Tryd.underlying23 trivial (by exact sz23)) rfl ?_
            refine St.ev _ (Ev.build (ps := []) (Opds.nil) (fun w => bld26_  w)) rfl ?_
            refine St.storeA (Opd.mk rfl) (Opd.mk rfl) sz23 (by first | simp only [List.length_cons, List.length_nil] | rfl) rfl ?_
            refine St.storeA (Opd.mk rfl) (Opd.mk rfl) sz26 (by first | simp only [List.length_cons, List.length_nil] | rfl) rfl ?_
            refine St.nil ?_
            refine St.then_normal ?_
            refine St.rett ?_
            refine St.rets [_, _] [] Tryd.results9 ⟨⟨_, _, _, _, rfl, InB.mem, .inl ⟨⟨_, Tryd.underlying23⟩, sz23, rfl⟩⟩, ⟨⟨_, _, _, _, rfl, InB.mem, .inl ⟨⟨_, Tryd.underlying26⟩, sz26, rfl⟩⟩, trivial⟩⟩ ?_ (fun _ hw => hw.sub)
            exact fr3e (by rw [hend, hfin, if_pos (by simpa using h131)]; rfl)
        · skip
          try simp only [Bool.and_true, Bool.true_and, decide_eq_true_eq, decide_eq_false_iff_not, Bool.and_eq_true, Bool.or_eq_true, Bool.and_eq_false_iff, Bool.or_eq_false_iff, Bool.not_eq_true', Bool.not_eq_false', beq_iff_eq, beq_eq_false_iff_ne, Int.not_lt, Int.not_le] at h124
          refine St.skip ?_
          refine St.then_normal ?_
          refine St.seq ?_
          refine St.seq ?_
          refine St.blkEq b11 [iv (finX x.1).1, iv (finX x.1).2] (by first | exact fin_11 hng h124 | exact fin_10 hng h124 | exact fin_01 hng h124 | exact fin_00 hng h124) ?_
          refine St.rg ?_
          refine St.ev _ (Ev.ldbA (Opd.mk rfl) Tryd.underlying23 trivial (by exact sz23)) rfl ?_
          refine St.ev _ (Ev.call (FracFault_spec (finX x.1).1 (finX x.1).2 (-1) (fin_x hri).1 (fin_x hri).2) cb6 (Opds.cons (Opd.mk rfl) (Opds.cons (Opd.mk rfl) Opds.nil))) rfl ?_
          refine St.ev _ (Ev.field1 (Opd.mk rfl) Tryd.underlying26 rfl (by first | rw [Tryd.underlying3] | (dsimp only; rw [Tryd.underlying3]) | kernel_rfl) rfl) rfl ?_
          refine St.ev _ (Ev.neq (Opd.mk rfl) (Opd.mk rfl)) rfl ?_
          refine St.nil ?_
          refine St.then_normal ?_
          refine St.cond _ rfl (fun h131 => ?_) (fun h131 => ?_)
          · skip
            try simp only [Bool.and_true, Bool.true_and, decide_eq_true_eq, decide_eq_false_iff_not, Bool.and_eq_true, Bool.or_eq_true, Bool.and_eq_false_iff, Bool.or_eq_false_iff, Bool.not_eq_true', Bool.not_eq_false', beq_iff_eq, beq_eq_false_iff_ne, Int.not_lt, Int.not_le] at h131
            refine St.seq ?_
            refine St.par [b2, b3] mixed ?_
            refine SW.defer 0 (by repeat (first | refine NP.then ?_ | refine NP.inBlock ?_ | exact NP.body)) (by kernel_rfl) rfl (fun R => Ev.build (ps := []) (Opds.nil) (fun w => bld23_  w)) (by kernel_rfl) rfl ?_
            refine SW.defer 1 (by repeat (first | refine NP.then ?_ | refine NP.inBlock ?_ | exact NP.body)) (by kernel_rfl) rfl (fun R => Ev.ldbA (Opd.mk rfl) Tryd.underlying26 trivial (by exact sz26)) (by kernel_rfl) rfl ?_
            refine SW.turn1 (i := 2) (by kernel_rfl) rfl ?_
            refine St.storeA (Opd.mk rfl) (Opd.mk rfl) sz23 (by first | simp only [List.length_cons, List.length_nil] | rfl) rfl ?_
            refine St.nil ?_
            refine St.then_normal ?_
            refine SW.go ?_
            refine SW.turn1 (i := 3) (by kernel_rfl) rfl ?_
            refine St.storeA (Opd.mk rfl) (Opd.mk rfl) sz26 (by first | simp only [List.length_cons, List.length_nil] | rfl) rfl ?_
            refine St.nil ?_
            refine St.then_normal ?_
            refine SW.go ?_
            refine SW.done (by kernel_rfl) ?_
            refine St.then_normal ?_
            refine St.rett ?_
            refine St.then_ret ?_
            refine St.rets [_, _] [] Tryd.results9 ⟨⟨_, _, _, _, rfl, InB.mem, .inl ⟨⟨_, Tryd.underlying23⟩, sz23, rfl⟩⟩, ⟨⟨_, _, _, _, rfl, InB.mem, .inl ⟨⟨_, Tryd.underlying26⟩, sz26, rfl⟩⟩, trivial⟩⟩ ?_ (fun _ hw => hw.sub)
            exact fr3e (by rw [hend, hfin, if_neg (by simpa using h131)]; rfl)
          · skip
            try simp only [Bool.and_true, Bool.true_and, decide_eq_true_eq, decide_eq_false_iff_not, Bool.and_eq_true, Bool.or_eq_true, Bool.and_eq_false_iff, Bool.or_eq_false_iff, Bool.not_eq_true', Bool.not_eq_false', beq_iff_eq, beq_eq_false_iff_ne, Int.not_lt, Int.not_le] at h131
            refine St.skip ?_
            refine St.then_normal ?_
            refine St.seq ?_
            refine St.rg ?_
            refine St.ev _ (Ev.ldbA (Opd.mk rfl) Tryd.underlying23 trivial (by exact sz23)) rfl ?_
            refine St.ev _ (Ev.build (ps := []) (Opds.nil) (fun w => bld26_  w)) rfl ?_
            refine St.storeA (Opd.mk rfl) (Opd.mk rfl) sz23 (by first | simp only [List.length_cons, List.length_nil] | rfl) rfl ?_
            refine St.storeA (Opd.mk rfl) (Opd.mk rfl) sz26 (by first | simp only [List.length_cons, List.length_nil] | rfl) rfl ?_
            refine St.nil ?_
            refine St.then_normal ?_
            refine St.rett ?_
            refine St.rets [_, _] [] Tryd.results9 ⟨⟨_, _, _, _, rfl, InB.mem, .inl ⟨⟨_, Tryd.underlying23⟩, sz23, rfl⟩⟩, ⟨⟨_, _, _, _, rfl, InB.mem, .inl ⟨⟨_, Tryd.underlying26⟩, sz26, rfl⟩⟩, trivial⟩⟩ ?_ (fun _ hw => hw.sub)
            exact fr3e (by rw [hend, hfin, if_pos (by simpa using h131)]; rfl)

end Go.Proofs.YteahhholjojfbaaDoor
