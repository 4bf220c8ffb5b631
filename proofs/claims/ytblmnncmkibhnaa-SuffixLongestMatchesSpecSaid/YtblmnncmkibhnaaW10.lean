/-
  The walk of the number of different parts, and the law of it by what neighbours share.
  Conditions: none.
-/
import Derived.Test.YtblmnncmkibhnaaW9
import Derived.Test.YtblmnncmkibhnaaSufL
set_option linter.unusedSimpArgs false
set_option linter.unusedVariables false
namespace Go.Proofs.Ytblmnncmkibhnaa
open Go Go.J

noncomputable def disV (p : List Int) : Int := if (sFault p).1 = 0 then disTo p (sufOf p) p.length else 0
theorem disV_t {p : List Int} (h : (sFault p).1 = 0) : disV p = disTo p (sufOf p) p.length := by unfold disV; rw [if_pos h]
theorem disV_f {p : List Int} (h : (sFault p).1 ≠ 0) : disV p = 0 := by unfold disV; rw [if_neg h]
theorem half_tri {n : Nat} (hn : n ≤ 2000) : Value.int .i64 (IntKind.i64.wrap (((n : Int) * ((n : Int) + 1)).tdiv 2)) = iv (tri n : Nat) := by
  have := tri_le n hn
  rw [two_tri, Int.mul_tdiv_cancel_left _ (by decide), wrap_ok (by omega)]

theorem Distinct_spec (v0 : Value) (p : List Int) : FnV Try.prog 21 #[v0] [sl intR v0 p] (.tuple #[iv (disV p), fv (sFault p)]) := by
  refine FnV.body1 (args := [v0]) 40 Try.func21 rfl Try.ntmps21 rfl (fun c => ?_)
  refine St.seq ?_
  refine St.rg ?_
  refine St.ev _ (Ev.assign (Opd.mk rfl)) rfl ?_
  refine St.alloc zc25 rfl (fun b3 => ?_)
  refine St.nil ?_
  refine St.then_normal ?_
  refine St.seq ?_
  refine St.seq ?_
  refine St.rg ?_
  refine St.ev _ (Ev.move (Opd.mk rfl)) rfl ?_
  refine St.ev _ (Ev.call (check_spec v0 p) cb25 (Opds.cons (Opd.mk rfl) Opds.nil)) rfl ?_
  refine St.alloc zc25 rfl (fun b4 => ?_)
  refine St.storeA (Opd.mk rfl) (Opd.mk rfl) sz25 (by first | simp only [List.length_cons, List.length_nil] | rfl) rfl ?_
  refine St.nil ?_
  refine St.then_normal ?_
  refine St.seq ?_
  refine St.rg ?_
  refine St.ev _ (Ev.fldb0 (Opd.mk rfl) fo25_0) rfl ?_
  refine St.ev _ (Ev.ldb (Opd.mk rfl) Try.underlying3 trivial (by rfl)) rfl ?_
  refine St.ev _ (Ev.neq (Opd.mk rfl) (Opd.mk rfl)) rfl ?_
  refine St.nil ?_
  refine St.then_normal ?_
  refine St.cond _ rfl (fun h13 => ?_) (fun h13 => ?_)
  · skip
    try simp only [Bool.and_true, Bool.true_and, decide_eq_true_eq, decide_eq_false_iff_not, Bool.and_eq_true, Bool.or_eq_true, Bool.and_eq_false_iff, Bool.or_eq_false_iff, Bool.not_eq_true', Bool.not_eq_false', beq_iff_eq, beq_eq_false_iff_ne, Int.not_lt, Int.not_le] at h13
    refine St.seq ?_
    refine St.par [b3] mixed ?_
    refine SW.defer 0 (by repeat (first | refine NP.then ?_ | refine NP.inBlock ?_ | exact NP.body)) (by kernel_rfl) rfl (fun R => Ev.ldbA (Opd.mk rfl) Try.underlying25 trivial (by exact sz25)) (by kernel_rfl) rfl ?_
    refine SW.defer 1 (by repeat (first | refine NP.then ?_ | refine NP.inBlock ?_ | exact NP.body)) (by kernel_rfl) rfl (fun R => Ev.assign (Opd.mk rfl)) (by kernel_rfl) rfl ?_
    refine SW.turn1 (i := 2) (by kernel_rfl) rfl ?_
    refine St.storeA (Opd.mk rfl) (Opd.mk rfl) sz25 (by first | simp only [List.length_cons, List.length_nil] | rfl) rfl ?_
    refine St.nil ?_
    refine St.then_normal ?_
    refine SW.go ?_
    refine SW.done (by kernel_rfl) ?_
    refine St.then_normal ?_
    refine St.rett ?_
    refine St.then_ret ?_
    refine St.rets [_, _] [] Try.results21 ⟨rfl, ⟨⟨_, _, _, _, rfl, InB.mem, .inl ⟨⟨_, Try.underlying25⟩, sz25, rfl⟩⟩, trivial⟩⟩ ?_ (fun _ hw => hw.sub)
    rw [disV_f h13]; rfl
  · skip
    try simp only [Bool.and_true, Bool.true_and, decide_eq_true_eq, decide_eq_false_iff_not, Bool.and_eq_true, Bool.or_eq_true, Bool.and_eq_false_iff, Bool.or_eq_false_iff, Bool.not_eq_true', Bool.not_eq_false', beq_iff_eq, beq_eq_false_iff_ne, Int.not_lt, Int.not_le] at h13
    have hz : (sFault p).1 = 0 := by omega
    have hok := sFault_ok hz
    refine St.skip ?_
    refine St.then_normal ?_
    refine St.seq ?_
    refine St.rg ?_
    refine St.ev _ (Ev.move (Opd.mk rfl)) rfl ?_
    refine St.calld (build_spec v0 p hok.1) cb26 (Opds.cons (Opd.mk rfl) Opds.nil) rfl ?_
    rintro v16 _ ⟨l, hsuf, hone, rfl⟩
    refine St.app1 ?_
    have e := sufOf_eq hsuf
    have hln := suf_len p
    have hli := ints_length (sufOf p)
    have hnl := nears_len (p := p) (sufOf p)
    have hni := ints_length (nears p (sufOf p))
    refine St.publish v16 intR (ints l) rfl (by rw [ints_length, e, hln]) (by rw [e]; exact suf_wf (by omega)) ?_
    rw [e]
    refine St.ev _ (Ev.assign (Opd.mk rfl)) rfl ?_
    refine St.nil ?_
    refine St.then_normal ?_
    refine St.seq ?_
    refine St.rg ?_
    refine St.ev _ (Ev.assign (Opd.mk rfl)) rfl ?_
    refine St.nil ?_
    refine St.then_normal ?_
    refine St.seq ?_
    refine St.seq ?_
    refine St.rg ?_
    refine St.ev _ (Ev.move (Opd.mk rfl)) rfl ?_
    refine St.ev _ (Ev.move (Opd.mk rfl)) rfl ?_
    refine St.calld (common_spec v0 v16 p (sufOf p) (sufOf_is p) hok.1) cb36 (Opds.cons (Opd.mk rfl) (Opds.cons (Opd.mk rfl) Opds.nil)) rfl ?_
    rintro v19 _ ⟨h2, rfl⟩
    refine St.app1 ?_
    refine St.publish v19 intR (ints (nears p (sufOf p))) rfl (by rw [hni, hnl]) (nears_wf hok.1) ?_
    refine St.ev _ (Ev.lensl (Opd.mk rfl) Try.underlying22) rfl ?_
    rw [hni, hnl]
    refine St.ev _ (Ev.move (Opd.mk rfl)) rfl ?_
    refine St.nil ?_
    refine St.then_normal ?_
    refine St.block ?_
    refine St.loopS (ι := Nat) (fun j T => (21, iv j) :: (6, iv (disTo p (sufOf p) j)) :: T) (fun j => j ≤ p.length) (fun j => p.length - j) 0 (Keep.cons 0 rfl (Keep.cons 2 rfl (Keep.cons 3 rfl (Keep.cons 5 rfl (Keep.cons 19 rfl (Keep.cons 20 rfl Keep.nil)))))) (Nat.zero_le _) (by repeat (first | exact Sub.nil | refine Sub.cons (by first | rfl | exact congrArg (fun z => some (iv z)) (by first | omega | (dsimp only; omega)) | exact congrArg (fun z => some (Value.bool z)) (by first | assumption | exact Eq.symm (by assumption))) ?_)) ?_
    intro j hphi
    refine St.seq ?_
    refine St.rg ?_
    refine St.ev _ (Ev.lss (Opd.mk rfl) (Opd.mk rfl)) rfl ?_
    refine St.nil ?_
    refine St.then_normal ?_
    refine St.seq ?_
    refine St.cond _ rfl (fun h22 => ?_) (fun h22 => ?_)
    · skip
      try simp only [Bool.and_true, Bool.true_and, decide_eq_true_eq, decide_eq_false_iff_not, Bool.and_eq_true, Bool.or_eq_true, Bool.and_eq_false_iff, Bool.or_eq_false_iff, Bool.not_eq_true', Bool.not_eq_false', beq_iff_eq, beq_eq_false_iff_ne, Int.not_lt, Int.not_le] at h22
      have e0 : (ints (nears p (sufOf p)))[j]? = some ((near p (sufOf p) j : Nat) : Int) := by rw [some_getD 0 (show j < (ints (nears p (sufOf p))).length by omega), ints_getD, nears_at (by omega)]
      have e2 : (ints (sufOf p))[j]? = some (((sufOf p).getD j 0 : Nat) : Int) := by rw [some_getD 0 (show j < (ints (sufOf p)).length by omega), ints_getD]
      have b2 := perm_lt (sufOf_is p).1 (show j < p.length by omega)
      have hbd := disTo_bd (sufOf_is p).1 hok.1 j (by omega)
      have hnb := near_le (p := p) (l := sufOf p) (k := j)
      refine St.skip ?_
      refine St.then_normal ?_
      refine St.seq ?_
      refine St.block ?_
      refine St.seq ?_
      refine St.rg ?_
      refine St.ev _ (Ev.move (Opd.mk rfl)) rfl ?_
      refine St.ev _ (Ev.idxaddr (k := j) (Opd.mk rfl) (Opd.mk rfl) Try.underlying22 sz3 (by omega) (by omega)) rfl ?_
      refine St.ev _ (Ev.ld1 (Opd.mk rfl) e0 Try.underlying3 trivial rfl) rfl ?_
      refine St.ev _ (Ev.assign (Opd.mk rfl)) rfl ?_
      refine St.ev _ (Ev.assign (Opd.mk rfl)) rfl ?_
      refine St.nil ?_
      refine St.then_normal ?_
      refine St.rg ?_
      refine St.ev _ (Ev.move (Opd.mk rfl)) rfl ?_
      refine St.ev _ (Ev.move (Opd.mk rfl)) rfl ?_
      refine St.ev _ (Ev.lensl (Opd.mk rfl) Try.underlying22) rfl ?_
      refine St.ev _ (Ev.move (Opd.mk rfl)) rfl ?_
      refine St.ev _ (Ev.move (Opd.mk rfl)) rfl ?_
      refine St.ev _ (Ev.idxaddr (k := j) (Opd.mk rfl) (Opd.mk rfl) Try.underlying22 sz3 (by omega) (by omega)) rfl ?_
      refine St.ev _ (Ev.ld1 (Opd.mk rfl) e2 Try.underlying3 trivial rfl) rfl ?_
      refine St.ev _ (Ev.sub (Opd.mk rfl) (Opd.mk rfl) (by omega)) rfl ?_
      refine St.ev _ (Ev.move (Opd.mk rfl)) rfl ?_
      refine St.ev _ (Ev.sub (Opd.mk rfl) (Opd.mk rfl) (by omega)) rfl ?_
      refine St.ev _ (Ev.add (Opd.mk rfl) (Opd.mk rfl) (by omega)) rfl ?_
      refine St.ev _ (Ev.assign (Opd.mk rfl)) rfl ?_
      refine St.nil ?_
      refine St.in_normal ?_
      refine St.then_normal ?_
      refine St.rg ?_
      refine St.ev _ (Ev.add (Opd.mk rfl) (Opd.mk rfl) (by omega)) rfl ?_
      refine St.ev _ (Ev.move (Opd.mk rfl)) rfl ?_
      refine St.nil ?_
      refine St.then_normal ?_
      refine St.againS (j + 1) (by omega) (by first | omega | (dsimp only; omega)) (by repeat (first | exact Sub.nil | refine Sub.cons (by first | rfl | exact congrArg (fun z => some (iv z)) (by first | omega | (dsimp only; omega)) | exact congrArg (fun z => some (Value.bool z)) (by first | assumption | exact Eq.symm (by assumption))) ?_)) (fun _ hw => hw.sub)
    · skip
      try simp only [Bool.and_true, Bool.true_and, decide_eq_true_eq, decide_eq_false_iff_not, Bool.and_eq_true, Bool.or_eq_true, Bool.and_eq_false_iff, Bool.or_eq_false_iff, Bool.not_eq_true', Bool.not_eq_false', beq_iff_eq, beq_eq_false_iff_ne, Int.not_lt, Int.not_le] at h22
      obtain rfl : j = p.length := by omega
      refine St.exit ?_
      refine St.then_exit ?_
      refine St.then_exit ?_
      refine St.in_hit ?_
      refine St.then_normal ?_
      refine St.seq ?_
      refine St.rg ?_
      refine St.ev _ (Ev.move (Opd.mk rfl)) rfl ?_
      refine St.ev _ (Ev.build (ps := []) (Opds.nil) (fun w => bld25_  w)) rfl ?_
      refine St.ev _ (Ev.assign (Opd.mk rfl)) rfl ?_
      refine St.storeA (Opd.mk rfl) (Opd.mk rfl) sz25 (by first | simp only [List.length_cons, List.length_nil] | rfl) rfl ?_
      refine St.nil ?_
      refine St.then_normal ?_
      refine St.rett ?_
      refine St.rets [_, _] [] Try.results21 ⟨rfl, ⟨⟨_, _, _, _, rfl, InB.mem, .inl ⟨⟨_, Try.underlying25⟩, sz25, rfl⟩⟩, trivial⟩⟩ ?_ (fun _ hw => hw.sub)
      rw [disV_t hz, hok.2]; rfl

theorem Common_ok (v0 v1 : Value) (p : List Int) (hz : (sFault p).1 = 0) : FnH Try.prog 19 #[v0, v1] ([sl intR v0 p, sl intR v1 (ints (sufOf p))].map dat) (fun u H' => ∃ u0 : Value, u = .tuple #[u0, fv (0, 0)] ∧ u0.oneCell' = true ∧ H' = [row u0 3 1 (nears p (sufOf p)).length (rows intR (ints (nears p (sufOf p))))]) := by
  have := Common_spec v0 v1 p (ints (sufOf p))
  rw [bothF_3 hz rfl, comL_t (by rw [bothF_3 hz rfl])] at this
  exact this
theorem Distinct_ok (v0 : Value) (p : List Int) (hz : (sFault p).1 = 0) : FnV Try.prog 21 #[v0] [sl intR v0 p] (.tuple #[iv (disTo p (sufOf p) p.length), fv (0, 0)]) := by
  have := Distinct_spec v0 p
  rw [disV_t hz, (sFault_ok hz).2] at this
  exact this

theorem law8_spec (v0 : Value) (p : List Int) : FnV Try.prog 8 #[v0] [sl intR v0 p] (.bool true) := by
  refine FnV.body1 (args := [v0]) 62 Try.func8 rfl Try.ntmps8 rfl (fun c => ?_)
  refine St.seq ?_
  refine St.rg ?_
  refine St.ev _ (Ev.assign (Opd.mk rfl)) rfl ?_
  refine St.nil ?_
  refine St.then_normal ?_
  refine St.seq ?_
  refine St.seq ?_
  refine St.rg ?_
  refine St.ev _ (Ev.call (suffixReady_spec) cb11 (Opds.nil)) rfl ?_
  refine St.ev _ (Ev.not (Opd.mk rfl)) rfl ?_
  refine St.nil ?_
  refine St.then_normal ?_
  refine St.condf _ rfl rfl ?_
  refine St.skip ?_
  refine St.then_normal ?_
  refine St.seq ?_
  refine St.rg ?_
  refine St.ev _ (Ev.move (Opd.mk rfl)) rfl ?_
  refine St.calld (Build_spec v0 p) cb12 (Opds.cons (Opd.mk rfl) Opds.nil) rfl ?_
  rintro v15 _ ⟨u0, rfl, h1, rfl⟩
  refine St.app1 ?_
  refine St.publish u0 intR (ints (bld p)) rfl (ints_length _).symm bld_wf ?_
  refine St.ev _ (Ev.move (Opd.mk rfl)) rfl ?_
  refine St.ev _ (Ev.extract (Opd.mk rfl) rfl) rfl ?_
  refine St.ev _ (Ev.extract (Opd.mk rfl) rfl) rfl ?_
  refine St.alloc zc25 rfl (fun b4 => ?_)
  refine St.ev _ (Ev.assign (Opd.mk rfl)) rfl ?_
  refine St.storeA (Opd.mk rfl) (Opd.mk rfl) sz25 (by first | simp only [List.length_cons, List.length_nil] | rfl) rfl ?_
  refine St.nil ?_
  refine St.then_normal ?_
  refine St.seq ?_
  refine St.seq ?_
  refine St.rg ?_
  refine St.ev _ (Ev.fldb0 (Opd.mk rfl) fo25_0) rfl ?_
  refine St.ev _ (Ev.ldb (Opd.mk rfl) Try.underlying3 trivial (by rfl)) rfl ?_
  refine St.ev _ (Ev.neq (Opd.mk rfl) (Opd.mk rfl)) rfl ?_
  refine St.nil ?_
  refine St.then_normal ?_
  refine St.cond _ rfl (fun h20 => ?_) (fun h20 => ?_)
  · skip
    try simp only [Bool.and_true, Bool.true_and, decide_eq_true_eq, decide_eq_false_iff_not, Bool.and_eq_true, Bool.or_eq_true, Bool.and_eq_false_iff, Bool.or_eq_false_iff, Bool.not_eq_true', Bool.not_eq_false', beq_iff_eq, beq_eq_false_iff_ne, Int.not_lt, Int.not_le] at h20
    refine St.seq ?_
    refine St.rg ?_
    refine St.ev _ (Ev.assign (Opd.mk rfl)) rfl ?_
    refine St.nil ?_
    refine St.then_normal ?_
    refine St.rett ?_
    refine St.then_ret ?_
    refine St.rets [_] [] Try.results8 ⟨rfl, trivial⟩ ?_ (fun _ hw => hw.sub)
    exact be rfl
  · skip
    try simp only [Bool.and_true, Bool.true_and, decide_eq_true_eq, decide_eq_false_iff_not, Bool.and_eq_true, Bool.or_eq_true, Bool.and_eq_false_iff, Bool.or_eq_false_iff, Bool.not_eq_true', Bool.not_eq_false', beq_iff_eq, beq_eq_false_iff_ne, Int.not_lt, Int.not_le] at h20
    have hz : (sFault p).1 = 0 := by omega
    have hok := sFault_ok hz
    rw [bld_t hz, hok.2]
    have hnl := nears_len (p := p) (sufOf p)
    have hni := ints_length (nears p (sufOf p))
    refine St.skip ?_
    refine St.then_normal ?_
    refine St.seq ?_
    refine St.rg ?_
    refine St.ev _ (Ev.move (Opd.mk rfl)) rfl ?_
    refine St.ev _ (Ev.move (Opd.mk rfl)) rfl ?_
    refine St.calld (Common_ok v0 u0 p hz) cb19 (Opds.cons (Opd.mk rfl) (Opds.cons (Opd.mk rfl) Opds.nil)) rfl ?_
    rintro v24 _ ⟨w0, rfl, h2, rfl⟩
    refine St.app1 ?_
    refine St.publish w0 intR (ints (nears p (sufOf p))) rfl (ints_length _).symm (nears_wf hok.1) ?_
    refine St.ev _ (Ev.move (Opd.mk rfl)) rfl ?_
    refine St.ev _ (Ev.extract (Opd.mk rfl) rfl) rfl ?_
    refine St.ev _ (Ev.extract (Opd.mk rfl) rfl) rfl ?_
    refine St.alloc zc25 rfl (fun b6 => ?_)
    refine St.ev _ (Ev.assign (Opd.mk rfl)) rfl ?_
    refine St.storeA (Opd.mk rfl) (Opd.mk rfl) sz25 (by first | simp only [List.length_cons, List.length_nil] | rfl) rfl ?_
    refine St.nil ?_
    refine St.then_normal ?_
    refine St.seq ?_
    refine St.rg ?_
    refine St.ev _ (Ev.move (Opd.mk rfl)) rfl ?_
    refine St.ev _ (Ev.call (Distinct_ok v0 p hz) cb21 (Opds.cons (Opd.mk rfl) Opds.nil)) rfl ?_
    refine St.ev _ (Ev.move (Opd.mk rfl)) rfl ?_
    refine St.ev _ (Ev.extract (Opd.mk rfl) rfl) rfl ?_
    refine St.ev _ (Ev.extract (Opd.mk rfl) rfl) rfl ?_
    refine St.alloc zc25 rfl (fun b8 => ?_)
    refine St.ev _ (Ev.assign (Opd.mk rfl)) rfl ?_
    refine St.storeA (Opd.mk rfl) (Opd.mk rfl) sz25 (by first | simp only [List.length_cons, List.length_nil] | rfl) rfl ?_
    refine St.nil ?_
    refine St.then_normal ?_
    refine St.seq ?_
    refine St.seq ?_
    refine St.rg ?_
    refine St.ev _ (Ev.fldb0 (Opd.mk rfl) fo25_0) rfl ?_
    refine St.ev _ (Ev.ldb (Opd.mk rfl) Try.underlying3 trivial (by rfl)) rfl ?_
    refine St.ev _ (Ev.neq (Opd.mk rfl) (Opd.mk rfl)) rfl ?_
    refine St.ev _ (Ev.move (Opd.mk rfl)) rfl ?_
    refine St.gf _ rfl rfl (fun hg => Ev.fldb0 (Opd.mk rfl) fo25_0) rfl ?_
    refine St.gf _ rfl rfl (fun hg => Ev.ldb (Opd.gv rfl hg) Try.underlying3 trivial (by rfl)) rfl ?_
    refine St.gf _ rfl rfl (fun hg => Ev.neq (Opd.gv rfl hg) (Opd.mk rfl)) rfl ?_
    refine St.ev _ (Ev.or (Opd.mk rfl) (fun hp => Opd.gv rfl hp)) rfl ?_
    refine St.nil ?_
    refine St.then_normal ?_
    refine St.condf _ rfl rfl ?_
    refine St.skip ?_
    refine St.then_normal ?_
    refine St.seq ?_
    refine St.rg ?_
    refine St.ev _ (Ev.move (Opd.mk rfl)) rfl ?_
    refine St.ev _ (Ev.lensl (Opd.mk rfl) Try.underlying22) rfl ?_
    refine St.ev _ (Ev.move (Opd.mk rfl)) rfl ?_
    refine St.ev _ (Ev.lensl (Opd.mk rfl) Try.underlying22) rfl ?_
    refine St.ev _ (Ev.add (Opd.mk rfl) (Opd.mk rfl) (by omega)) rfl ?_
    refine St.ev _ (Ev.mul (Opd.mk rfl) (Opd.mk rfl) (by have h1 := two_tri p.length; have h2 := tri_le p.length hok.1; omega)) rfl ?_
    refine St.ev _ (Ev.quoW (Opd.mk rfl) (Opd.mk rfl) (by decide)) rfl ?_
    refine St.slot 46 (iv (tri p.length : Nat)) rfl (half_tri hok.1) ?_
    refine St.ev _ (Ev.assign (Opd.mk rfl)) rfl ?_
    refine St.nil ?_
    refine St.then_normal ?_
    refine St.seq ?_
    refine St.seq ?_
    refine St.rg ?_
    refine St.ev _ (Ev.assign (Opd.mk rfl)) rfl ?_
    refine St.nil ?_
    refine St.then_normal ?_
    refine St.block ?_
    have hn0 : nsTo p (sufOf p) 0 = 0 := rfl
    refine St.loopS (ι := Nat) (fun j T => (10, iv j) :: (9, iv ((tri p.length : Nat) - (nsTo p (sufOf p) j : Nat))) :: T) (fun j => j ≤ p.length) (fun j => p.length - j) 0 (Keep.cons 2 rfl (Keep.cons 5 rfl (Keep.cons 7 rfl Keep.nil))) (Nat.zero_le _) (by repeat (first | exact Sub.nil | refine Sub.cons (by first | rfl | exact congrArg (fun z => some (iv z)) (by first | omega | (dsimp only; omega)) | exact congrArg (fun z => some (Value.bool z)) (by first | assumption | exact Eq.symm (by assumption))) ?_)) ?_
    intro j hphi
    refine St.seq ?_
    refine St.seq ?_
    refine St.rg ?_
    refine St.ev _ (Ev.move (Opd.mk rfl)) rfl ?_
    refine St.ev _ (Ev.move (Opd.mk rfl)) rfl ?_
    refine St.ev _ (Ev.lensl (Opd.mk rfl) Try.underlying22) rfl ?_
    refine St.ev _ (Ev.lss (Opd.mk rfl) (Opd.mk rfl)) rfl ?_
    refine St.nil ?_
    refine St.then_normal ?_
    refine St.cond _ rfl (fun h50 => ?_) (fun h50 => ?_)
    · skip
      try simp only [Bool.and_true, Bool.true_and, decide_eq_true_eq, decide_eq_false_iff_not, Bool.and_eq_true, Bool.or_eq_true, Bool.and_eq_false_iff, Bool.or_eq_false_iff, Bool.not_eq_true', Bool.not_eq_false', beq_iff_eq, beq_eq_false_iff_ne, Int.not_lt, Int.not_le] at h50
      have e0 : (ints (nears p (sufOf p)))[j]? = some ((near p (sufOf p) j : Nat) : Int) := by rw [some_getD 0 (show j < (ints (nears p (sufOf p))).length by omega), ints_getD, nears_at (by omega)]
      have htl := tri_le p.length hok.1
      have hnsl := nsTo_le (l := sufOf p) hok.1 j
      have hnb := near_le (p := p) (l := sufOf p) (k := j)
      refine St.skip ?_
      refine St.then_normal ?_
      refine St.seq ?_
      refine St.block ?_
      refine St.rg ?_
      refine St.ev _ (Ev.move (Opd.mk rfl)) rfl ?_
      refine St.ev _ (Ev.move (Opd.mk rfl)) rfl ?_
      refine St.ev _ (Ev.move (Opd.mk rfl)) rfl ?_
      refine St.ev _ (Ev.idxaddr (k := j) (Opd.mk rfl) (Opd.mk rfl) Try.underlying22 sz3 (by omega) (by omega)) rfl ?_
      refine St.ev _ (Ev.ld1 (Opd.mk rfl) e0 Try.underlying3 trivial rfl) rfl ?_
      refine St.ev _ (Ev.sub (Opd.mk rfl) (Opd.mk rfl) (by omega)) rfl ?_
      refine St.ev _ (Ev.assign (Opd.mk rfl)) rfl ?_
      refine St.nil ?_
      refine St.in_normal ?_
      refine St.then_normal ?_
      refine St.rg ?_
      refine St.ev _ (Ev.move (Opd.mk rfl)) rfl ?_
      refine St.ev _ (Ev.add (Opd.mk rfl) (Opd.mk rfl) (by omega)) rfl ?_
      refine St.ev _ (Ev.assign (Opd.mk rfl)) rfl ?_
      refine St.nil ?_
      refine St.then_normal ?_
      have hne : nsTo p (sufOf p) (j + 1) = nsTo p (sufOf p) j + near p (sufOf p) j := rfl
      refine St.againS (j + 1) (by omega) (by first | omega | (dsimp only; omega)) (by repeat (first | exact Sub.nil | refine Sub.cons (by first | rfl | exact congrArg (fun z => some (iv z)) (by first | omega | (dsimp only; omega)) | exact congrArg (fun z => some (Value.bool z)) (by first | assumption | exact Eq.symm (by assumption))) ?_)) (fun _ hw => hw.sub)
    · skip
      try simp only [Bool.and_true, Bool.true_and, decide_eq_true_eq, decide_eq_false_iff_not, Bool.and_eq_true, Bool.or_eq_true, Bool.and_eq_false_iff, Bool.or_eq_false_iff, Bool.not_eq_true', Bool.not_eq_false', beq_iff_eq, beq_eq_false_iff_ne, Int.not_lt, Int.not_le] at h50
      obtain rfl : j = p.length := by omega
      have hda := dis_all (sufOf_is p).1
      refine St.exit ?_
      refine St.then_exit ?_
      refine St.then_exit ?_
      refine St.in_hit ?_
      refine St.then_normal ?_
      refine St.seq ?_
      refine St.rg ?_
      refine St.ev _ (Ev.move (Opd.mk rfl)) rfl ?_
      refine St.ev _ (Ev.move (Opd.mk rfl)) rfl ?_
      refine St.ev _ (Ev.eql (Opd.mk rfl) (Opd.mk rfl)) rfl ?_
      refine St.ev _ (Ev.assign (Opd.mk rfl)) rfl ?_
      refine St.nil ?_
      refine St.then_normal ?_
      refine St.rett ?_
      refine St.rets [_] [] Try.results8 ⟨rfl, trivial⟩ ?_ (fun _ hw => hw.sub)
      exact be (by rw [hda]; simp)

end Go.Proofs.Ytblmnncmkibhnaa
