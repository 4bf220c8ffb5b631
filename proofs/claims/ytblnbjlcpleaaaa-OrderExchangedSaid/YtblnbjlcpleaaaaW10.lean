/-
  The law of Orders, Count and First.
  Conditions: none.
-/
import Derived.Test.YtblnbjlcpleaaaaW9
set_option linter.unusedSimpArgs false
set_option linter.unusedVariables false
namespace Go.Proofs.Ytblnbjlcpleaaaa
open Go Go.J


theorem head_some {α : Type} {l : List α} : l.head?.isSome = decide (0 < l.length) := by cases l <;> simp

theorem sameIntLists_spec (v0 v1 : Value) (vs us : List OneV) (A B : List (List Int)) (hA : vs.length = A.length) (hB : us.length = B.length) : FnV Try.prog 20 #[v0, v1] [sl valR v0 vs, ptw intR vs A, sl valR v1 us, ptw intR us B] (.bool (decide (A = B))) := by
  refine FnV.body4 (args := [v0, v1]) 27 Try.func20 rfl Try.ntmps20 rfl (fun c => ?_)
  refine St.seq ?_
  refine St.wf v0 (fun hwf0 hlen0 => ?_)
  refine St.wf v1 (fun hwf1 hlen1 => ?_)
  refine St.rg ?_
  refine St.ev _ (Ev.assign (Opd.mk rfl)) rfl ?_
  refine St.nil ?_
  refine St.then_normal ?_
  refine St.seq ?_
  refine St.seq ?_
  refine St.rg ?_
  refine St.ev _ (Ev.move (Opd.mk rfl)) rfl ?_
  refine St.ev _ (Ev.lensl (Opd.mk rfl) Try.underlying35) rfl ?_
  refine St.ev _ (Ev.move (Opd.mk rfl)) rfl ?_
  refine St.ev _ (Ev.lensl (Opd.mk rfl) Try.underlying35) rfl ?_
  refine St.ev _ (Ev.neq (Opd.mk rfl) (Opd.mk rfl)) rfl ?_
  refine St.nil ?_
  refine St.then_normal ?_
  refine St.cond _ rfl (fun h10 => ?_) (fun h10 => ?_)
  · skip
    try simp only [Bool.and_true, Bool.true_and, decide_eq_true_eq, decide_eq_false_iff_not, Bool.and_eq_true, Bool.or_eq_true, Bool.and_eq_false_iff, Bool.or_eq_false_iff, Bool.not_eq_true', Bool.not_eq_false', beq_iff_eq, beq_eq_false_iff_ne, Int.not_lt, Int.not_le] at h10
    refine St.seq ?_
    refine St.rg ?_
    refine St.ev _ (Ev.assign (Opd.mk rfl)) rfl ?_
    refine St.nil ?_
    refine St.then_normal ?_
    refine St.rett ?_
    refine St.then_ret ?_
    refine St.rets [_] [] Try.results20 ⟨rfl, trivial⟩ ?_ (fun _ hw => hw.sub)
    exact be (by rw [eq_comm, decide_eq_false_iff_not]; rintro rfl; omega)
  · skip
    try simp only [Bool.and_true, Bool.true_and, decide_eq_true_eq, decide_eq_false_iff_not, Bool.and_eq_true, Bool.or_eq_true, Bool.and_eq_false_iff, Bool.or_eq_false_iff, Bool.not_eq_true', Bool.not_eq_false', beq_iff_eq, beq_eq_false_iff_ne, Int.not_lt, Int.not_le] at h10
    refine St.skip ?_
    refine St.then_normal ?_
    refine St.seq ?_
    refine St.seq ?_
    refine St.rg ?_
    refine St.ev _ (Ev.assign (Opd.mk rfl)) rfl ?_
    refine St.nil ?_
    refine St.then_normal ?_
    refine St.block ?_
    refine St.loopS (ι := Nat) (fun k T => (5, iv k) :: T) (fun k => k ≤ A.length ∧ A.take k = B.take k) (fun k => A.length - k) 0 (Keep.cons 0 rfl (Keep.cons 1 rfl Keep.nil)) ⟨Nat.zero_le _, rfl⟩ (by repeat (first | exact Sub.nil | refine Sub.cons (by first | rfl | exact congrArg (fun z => some (iv z)) (by first | omega | (dsimp only; omega)) | exact congrArg (fun z => some (Value.bool z)) (by first | assumption | exact Eq.symm (by assumption))) ?_)) ?_
    intro k hphi
    obtain ⟨hk, hv⟩ := hphi
    refine St.seq ?_
    refine St.seq ?_
    refine St.rg ?_
    refine St.ev _ (Ev.move (Opd.mk rfl)) rfl ?_
    refine St.ev _ (Ev.move (Opd.mk rfl)) rfl ?_
    refine St.ev _ (Ev.lensl (Opd.mk rfl) Try.underlying35) rfl ?_
    refine St.ev _ (Ev.lss (Opd.mk rfl) (Opd.mk rfl)) rfl ?_
    refine St.nil ?_
    refine St.then_normal ?_
    refine St.cond _ rfl (fun h14 => ?_) (fun h14 => ?_)
    · skip
      try simp only [Bool.and_true, Bool.true_and, decide_eq_true_eq, decide_eq_false_iff_not, Bool.and_eq_true, Bool.or_eq_true, Bool.and_eq_false_iff, Bool.or_eq_false_iff, Bool.not_eq_true', Bool.not_eq_false', beq_iff_eq, beq_eq_false_iff_ne, Int.not_lt, Int.not_le] at h14
      obtain ⟨a, ha⟩ := some_of_lt (show k < A.length by omega)
      obtain ⟨b, hb⟩ := some_of_lt (show k < B.length by omega)
      obtain ⟨u, hu⟩ := some_of_lt (show k < vs.length by omega)
      obtain ⟨w, hw⟩ := some_of_lt (show k < us.length by omega)
      refine St.ptw (vs := vs) k hu ha ?_
      refine St.ptw (vs := us) k hw hb ?_
      refine St.skip ?_
      refine St.then_normal ?_
      refine St.seq ?_
      refine St.block ?_
      refine St.seq ?_
      refine St.rq mixed (by kernel_rfl) (Mm.drawn _ _) ?_
      refine Sq.ev _ (Ev.move (Opd.mk rfl)) rfl ?_
      refine Sq.ev _ (Ev.move (Opd.mk rfl)) rfl ?_
      refine Sq.ev _ (Ev.idxaddr  (Opd.mk rfl) (Opd.mk rfl) Try.underlying35 sz24 rfl (by omega)) rfl ?_
      refine Sq.ev _ (Ev.ld1 (Opd.mk rfl) hu Try.underlying24 trivial rfl) rfl ?_
      refine Sq.ev _ (Ev.move (Opd.mk rfl)) rfl ?_
      refine Sq.ev _ (Ev.move (Opd.mk rfl)) rfl ?_
      refine Sq.ev _ (Ev.idxaddr  (Opd.mk rfl) (Opd.mk rfl) Try.underlying35 sz24 rfl (by omega)) rfl ?_
      refine Sq.ev _ (Ev.ld1 (Opd.mk rfl) hw Try.underlying24 trivial rfl) rfl ?_
      refine Sq.ev _ (Ev.call (sameInts_spec u.1 w.1 a b) cb14 (Opds.cons (Opd.mk rfl) (Opds.cons (Opd.mk rfl) Opds.nil))) rfl ?_
      refine Sq.ev _ (Ev.not (Opd.mk rfl)) rfl ?_
      refine Sq.nil ?_
      refine St.then_normal ?_
      refine St.cond _ rfl (fun h26 => ?_) (fun h26 => ?_)
      · skip
        skip
        refine St.seq ?_
        refine St.rg ?_
        refine St.ev _ (Ev.assign (Opd.mk rfl)) rfl ?_
        refine St.nil ?_
        refine St.then_normal ?_
        refine St.rett ?_
        refine St.in_ret ?_
        refine St.then_ret ?_
        refine St.then_ret ?_
        refine St.in_ret ?_
        refine St.then_ret ?_
        refine St.rets [_] [] Try.results20 ⟨rfl, trivial⟩ ?_ (fun _ hw => hw.sub)
        exact be (by rw [eq_comm, decide_eq_false_iff_not]; rintro rfl; rw [ha] at hb; simp only [Option.some.injEq] at hb; simp [hb] at h26)
      · skip
        skip
        refine St.skip ?_
        refine St.in_normal ?_
        refine St.then_normal ?_
        refine St.rg ?_
        refine St.ev _ (Ev.move (Opd.mk rfl)) rfl ?_
        refine St.ev _ (Ev.add (Opd.mk rfl) (Opd.mk rfl) (by omega)) rfl ?_
        refine St.ev _ (Ev.assign (Opd.mk rfl)) rfl ?_
        refine St.nil ?_
        refine St.then_normal ?_
        refine St.againS (k + 1) ⟨by omega, by rw [take_of_some ha, take_of_some hb, hv, show a = b by simpa using h26]⟩ (by first | omega | (dsimp only; omega)) (by repeat (first | exact Sub.nil | refine Sub.cons (by first | rfl | exact congrArg (fun z => some (iv z)) (by first | omega | (dsimp only; omega)) | exact congrArg (fun z => some (Value.bool z)) (by first | assumption | exact Eq.symm (by assumption))) ?_)) (fun _ hw => hw.sub)
    · skip
      try simp only [Bool.and_true, Bool.true_and, decide_eq_true_eq, decide_eq_false_iff_not, Bool.and_eq_true, Bool.or_eq_true, Bool.and_eq_false_iff, Bool.or_eq_false_iff, Bool.not_eq_true', Bool.not_eq_false', beq_iff_eq, beq_eq_false_iff_ne, Int.not_lt, Int.not_le] at h14
      refine St.exit ?_
      refine St.then_exit ?_
      refine St.then_exit ?_
      refine St.in_hit ?_
      refine St.then_normal ?_
      refine St.seq ?_
      refine St.rg ?_
      refine St.ev _ (Ev.assign (Opd.mk rfl)) rfl ?_
      refine St.nil ?_
      refine St.then_normal ?_
      refine St.rett ?_
      refine St.rets [_] [] Try.results20 ⟨rfl, trivial⟩ ?_ (fun _ hw => hw.sub)
      exact be (by rw [eq_comm, decide_eq_true_eq]; rw [List.take_of_length_le (by omega), List.take_of_length_le (by omega)] at hv; exact hv)

theorem law6_spec (v0 v1 : Value) (rules : List Prec) (ks : List Str) : FnV Try.prog 6 #[v0, v1] [sl precR v0 rules, sl strR v1 ks] (.bool true) := by
  refine FnV.body2 (args := [v0, v1]) 140 Try.func6 rfl Try.ntmps6 rfl (fun c => ?_)
  refine St.seq ?_
  refine St.wf v0 (fun hwf0 hlen0 => ?_)
  refine St.wf v1 (fun hwf1 hlen1 => ?_)
  refine St.rg ?_
  refine St.ev _ (Ev.assign (Opd.mk rfl)) rfl ?_
  refine St.nil ?_
  refine St.then_normal ?_
  refine St.seq ?_
  refine St.seq ?_
  refine St.rg ?_
  refine St.ev _ (Ev.call (orderReady_spec) cb9 (Opds.nil)) rfl ?_
  refine St.ev _ (Ev.not (Opd.mk rfl)) rfl ?_
  refine St.ev _ (Ev.move (Opd.mk rfl)) rfl ?_
  refine St.gf _ rfl rfl (fun hg => Ev.move (Opd.mk rfl)) rfl ?_
  refine St.gf _ rfl rfl (fun hg => Ev.call (Validate_spec v0 rules) cb15 (Opds.cons (Opd.gv rfl hg) Opds.nil)) rfl ?_
  refine St.gf _ rfl rfl (fun hg => Ev.move (Opd.mk rfl)) rfl ?_
  refine St.gf _ rfl rfl (fun hg => Ev.call (OrderFault_spec v0 rules) cb16 (Opds.cons (Opd.gv rfl hg) Opds.nil)) rfl ?_
  refine St.gf _ rfl rfl (fun hg => Ev.structneq (Opd.gv rfl hg) (Opd.gv rfl hg) Try.eqGuardType27 (fun w => eqf27 _ _ _ _ w)) rfl ?_
  refine St.ev _ (Ev.or (Opd.mk rfl) (fun hp => Opd.gv rfl hp)) rfl ?_
  refine St.nil ?_
  refine St.then_normal ?_
  refine St.condf _ rfl (by simp) ?_
  refine St.skip ?_
  refine St.then_normal ?_
  refine St.seq ?_
  refine St.rg ?_
  refine St.ev _ (Ev.move (Opd.mk rfl)) rfl ?_
  refine St.ev _ (Ev.move (Opd.mk rfl)) rfl ?_
  refine St.calld (Orders_spec v0 v1 rules ks) cb13 (Opds.cons (Opd.mk rfl) (Opds.cons (Opd.mk rfl) Opds.nil)) rfl ?_
  rintro v26 _ ⟨vo, vs, hvl, rfl, rfl⟩
  refine St.app2 ?_
  refine St.ev _ (Ev.move (Opd.mk rfl)) rfl ?_
  refine St.ev _ (Ev.extract (Opd.mk rfl) rfl) rfl ?_
  refine St.ev _ (Ev.extract (Opd.mk rfl) rfl) rfl ?_
  refine St.alloc zc27 rfl (fun b6 => ?_)
  refine St.ev _ (Ev.assign (Opd.mk rfl)) rfl ?_
  refine St.storeA (Opd.mk rfl) (Opd.mk rfl) sz27 (by first | simp only [List.length_cons, List.length_nil] | rfl) rfl ?_
  refine St.nil ?_
  refine St.then_normal ?_
  refine St.seq ?_
  refine St.rg ?_
  refine St.ev _ (Ev.move (Opd.mk rfl)) rfl ?_
  refine St.ev _ (Ev.move (Opd.mk rfl)) rfl ?_
  refine St.calld (Count_spec v0 v1 rules ks) cb17 (Opds.cons (Opd.mk rfl) (Opds.cons (Opd.mk rfl) Opds.nil)) rfl ?_
  rintro v32 _ ⟨rfl, rfl⟩
  refine St.app0 ?_
  refine St.ev _ (Ev.move (Opd.mk rfl)) rfl ?_
  refine St.ev _ (Ev.extract (Opd.mk rfl) rfl) rfl ?_
  refine St.ev _ (Ev.extract (Opd.mk rfl) rfl) rfl ?_
  refine St.alloc zc27 rfl (fun b8 => ?_)
  refine St.ev _ (Ev.assign (Opd.mk rfl)) rfl ?_
  refine St.storeA (Opd.mk rfl) (Opd.mk rfl) sz27 (by first | simp only [List.length_cons, List.length_nil] | rfl) rfl ?_
  refine St.nil ?_
  refine St.then_normal ?_
  refine St.seq ?_
  refine St.rg ?_
  refine St.ev _ (Ev.move (Opd.mk rfl)) rfl ?_
  refine St.ev _ (Ev.move (Opd.mk rfl)) rfl ?_
  refine St.calld (First_spec v0 v1 rules ks) cb18 (Opds.cons (Opd.mk rfl) (Opds.cons (Opd.mk rfl) Opds.nil)) rfl ?_
  rintro v38 _ ⟨vf, rfl, rfl⟩
  refine St.app1 ?_
  refine St.ev _ (Ev.move (Opd.mk rfl)) rfl ?_
  refine St.ev _ (Ev.extract (Opd.mk rfl) rfl) rfl ?_
  refine St.ev _ (Ev.extract (Opd.mk rfl) rfl) rfl ?_
  refine St.ev _ (Ev.extract (Opd.mk rfl) rfl) rfl ?_
  refine St.alloc zc27 rfl (fun b11 => ?_)
  refine St.ev _ (Ev.assign (Opd.mk rfl)) rfl ?_
  refine St.ev _ (Ev.assign (Opd.mk rfl)) rfl ?_
  refine St.storeA (Opd.mk rfl) (Opd.mk rfl) sz27 (by first | simp only [List.length_cons, List.length_nil] | rfl) rfl ?_
  refine St.nil ?_
  refine St.then_normal ?_
  refine St.seq ?_
  refine St.rg ?_
  refine St.ev _ (Ev.move (Opd.mk rfl)) rfl ?_
  refine St.ev _ (Ev.move (Opd.mk rfl)) rfl ?_
  refine St.ev _ (Ev.call (OrderKinds_spec v0 v1 rules ks) cb11 (Opds.cons (Opd.mk rfl) (Opds.cons (Opd.mk rfl) Opds.nil))) rfl ?_
  refine St.alloc zc27 rfl (fun b12 => ?_)
  refine St.storeA (Opd.mk rfl) (Opd.mk rfl) sz27 (by first | simp only [List.length_cons, List.length_nil] | rfl) rfl ?_
  refine St.nil ?_
  refine St.then_normal ?_
  refine St.seq ?_
  refine St.seq ?_
  refine St.rg ?_
  refine St.ev _ (Ev.fldb0 (Opd.mk rfl) fo27_0) rfl ?_
  refine St.ev _ (Ev.ldb (Opd.mk rfl) Try.underlying3 trivial (by rfl)) rfl ?_
  refine St.ev _ (Ev.neq (Opd.mk rfl) (Opd.mk rfl)) rfl ?_
  refine St.nil ?_
  refine St.then_normal ?_
  refine St.cond _ rfl (fun h47 => ?_) (fun h47 => ?_)
  · skip
    try simp only [Bool.and_true, Bool.true_and, decide_eq_true_eq, decide_eq_false_iff_not, Bool.and_eq_true, Bool.or_eq_true, Bool.and_eq_false_iff, Bool.or_eq_false_iff, Bool.not_eq_true', Bool.not_eq_false', beq_iff_eq, beq_eq_false_iff_ne, Int.not_lt, Int.not_le] at h47
    have eO : ordersOf rules ks = ([], chk rules ks) := by rw [ordersOf_eq, if_pos h47]
    have eC : countOf rules ks = (0, chk rules ks) := by rw [countOf_eq, if_pos h47]
    have eF : firstOf rules ks = (none, chk rules ks) := by rw [firstOf_eq, if_pos h47]
    rw [eO] at hvl
    rw [eO, eC, eF]
    have hv0 : vs.length = 0 := hvl
    refine St.seq ?_
    refine St.rg ?_
    refine St.ev _ (Ev.ldbA (Opd.mk rfl) Try.underlying27 trivial (by exact sz27)) rfl ?_
    refine St.ev _ (Ev.ldbA (Opd.mk rfl) Try.underlying27 trivial (by exact sz27)) rfl ?_
    refine St.ev _ (Ev.structeql (Opd.mk rfl) (Opd.mk rfl) Try.eqGuardType27 (fun w => eqf27 _ _ _ _ w)) rfl ?_
    refine St.ev _ (Ev.move (Opd.mk rfl)) rfl ?_
    refine St.gt _ rfl rfl (fun hg => Ev.ldbA (Opd.mk rfl) Try.underlying27 trivial (by exact sz27)) rfl ?_
    refine St.gt _ rfl rfl (fun hg => Ev.ldbA (Opd.mk rfl) Try.underlying27 trivial (by exact sz27)) rfl ?_
    refine St.gt _ rfl rfl (fun hg => Ev.structeql (Opd.gv rfl hg) (Opd.gv rfl hg) Try.eqGuardType27 (fun w => eqf27 _ _ _ _ w)) rfl ?_
    refine St.ev _ (Ev.and (Opd.mk rfl) (fun hp => Opd.gv rfl hp)) rfl ?_
    refine St.ev _ (Ev.move (Opd.mk rfl)) rfl ?_
    refine St.gt _ rfl rfl (fun hg => Ev.ldbA (Opd.mk rfl) Try.underlying27 trivial (by exact sz27)) rfl ?_
    refine St.gt _ rfl rfl (fun hg => Ev.ldbA (Opd.mk rfl) Try.underlying27 trivial (by exact sz27)) rfl ?_
    refine St.gt _ rfl rfl (fun hg => Ev.structeql (Opd.gv rfl hg) (Opd.gv rfl hg) Try.eqGuardType27 (fun w => eqf27 _ _ _ _ w)) rfl ?_
    refine St.ev _ (Ev.and (Opd.mk rfl) (fun hp => Opd.gv rfl hp)) rfl ?_
    refine St.ev _ (Ev.move (Opd.mk rfl)) rfl ?_
    refine St.gt _ rfl rfl (fun hg => Ev.move (Opd.mk rfl)) rfl ?_
    refine St.gt _ rfl rfl (fun hg => Ev.lensl (Opd.gv rfl hg) Try.underlying35) rfl ?_
    refine St.gt _ rfl rfl (fun hg => Ev.eql (Opd.gv rfl hg) (Opd.mk rfl)) rfl ?_
    refine St.ev _ (Ev.and (Opd.mk rfl) (fun hp => Opd.gv rfl hp)) rfl ?_
    refine St.ev _ (Ev.move (Opd.mk rfl)) rfl ?_
    refine St.gt _ rfl rfl (fun hg => Ev.move (Opd.mk rfl)) rfl ?_
    refine St.gt _ rfl rfl (fun hg => Ev.eql (Opd.gv rfl hg) (Opd.mk rfl)) rfl ?_
    refine St.ev _ (Ev.and (Opd.mk rfl) (fun hp => Opd.gv rfl hp)) rfl ?_
    refine St.ev _ (Ev.move (Opd.mk rfl)) rfl ?_
    refine St.gt _ rfl rfl (fun hg => Ev.move (Opd.mk rfl)) rfl ?_
    refine St.gt _ rfl rfl (fun hg => Ev.lensl (Opd.gv rfl hg) Try.underlying24) rfl ?_
    refine St.gt _ rfl rfl (fun hg => Ev.eql (Opd.gv rfl hg) (Opd.mk rfl)) rfl ?_
    refine St.ev _ (Ev.and (Opd.mk rfl) (fun hp => Opd.gv rfl hp)) rfl ?_
    refine St.ev _ (Ev.move (Opd.mk rfl)) rfl ?_
    refine St.gt _ rfl rfl (fun hg => Ev.move (Opd.mk rfl)) rfl ?_
    refine St.gt _ rfl rfl (fun hg => Ev.not (Opd.gv rfl hg)) rfl ?_
    refine St.ev _ (Ev.and (Opd.mk rfl) (fun hp => Opd.gv rfl hp)) rfl ?_
    refine St.ev _ (Ev.assign (Opd.mk rfl)) rfl ?_
    refine St.nil ?_
    refine St.then_normal ?_
    refine St.rett ?_
    refine St.then_ret ?_
    refine St.rets [_] [] Try.results6 ⟨rfl, trivial⟩ ?_ (fun _ hw => hw.sub)
    exact be (by simp [hv0])
  · skip
    try simp only [Bool.and_true, Bool.true_and, decide_eq_true_eq, decide_eq_false_iff_not, Bool.and_eq_true, Bool.or_eq_true, Bool.and_eq_false_iff, Bool.or_eq_false_iff, Bool.not_eq_true', Bool.not_eq_false', beq_iff_eq, beq_eq_false_iff_ne, Int.not_lt, Int.not_le] at h47
    obtain ⟨hr, hks⟩ := chk_ok h47
    have eC : countOf rules ks = (((good rules ks).length : Int), (0, 0)) := by rw [countOf_eq, if_neg (by omega)]
    have eF : firstOf rules ks = ((good rules ks).head?, (0, 0)) := by rw [firstOf_eq, if_neg (by omega)]
    rw [eC, eF]
    refine St.skip ?_
    refine St.then_normal ?_
    refine St.seq ?_
    refine St.rg ?_
    refine St.ev _ (Ev.move (Opd.mk rfl)) rfl ?_
    refine St.ev _ (Ev.move (Opd.mk rfl)) rfl ?_
    refine St.calld (OrderAll_spec v0 v1 rules ks hks) cb19 (Opds.cons (Opd.mk rfl) (Opds.cons (Opd.mk rfl) Opds.nil)) rfl ?_
    rintro v81 _ ⟨ws, hwl, rfl⟩
    refine St.app2 ?_
    refine St.ev _ (Ev.assign (Opd.mk rfl)) rfl ?_
    refine St.nil ?_
    refine St.then_normal ?_
    refine St.seq ?_
    refine St.seq ?_
    refine St.rg ?_
    refine St.ev _ (Ev.fldb0 (Opd.mk rfl) fo27_0) rfl ?_
    refine St.ev _ (Ev.ldb (Opd.mk rfl) Try.underlying3 trivial (by rfl)) rfl ?_
    refine St.ev _ (Ev.neq (Opd.mk rfl) (Opd.mk rfl)) rfl ?_
    refine St.ev _ (Ev.move (Opd.mk rfl)) rfl ?_
    refine St.gf _ rfl rfl (fun hg => Ev.move (Opd.mk rfl)) rfl ?_
    refine St.gf _ rfl rfl (fun hg => Ev.move (Opd.mk rfl)) rfl ?_
    refine St.gf _ rfl rfl (fun hg => Ev.lensl (Opd.gv rfl hg) Try.underlying35) rfl ?_
    refine St.gf _ rfl rfl (fun hg => Ev.neq (Opd.gv rfl hg) (Opd.gv rfl hg)) rfl ?_
    refine St.ev _ (Ev.or (Opd.mk rfl) (fun hp => Opd.gv rfl hp)) rfl ?_
    refine St.ev _ (Ev.move (Opd.mk rfl)) rfl ?_
    refine St.gf _ rfl rfl (fun hg => Ev.fldb0 (Opd.mk rfl) fo27_0) rfl ?_
    refine St.gf _ rfl rfl (fun hg => Ev.ldb (Opd.gv rfl hg) Try.underlying3 trivial (by rfl)) rfl ?_
    refine St.gf _ rfl rfl (fun hg => Ev.neq (Opd.gv rfl hg) (Opd.mk rfl)) rfl ?_
    refine St.ev _ (Ev.or (Opd.mk rfl) (fun hp => Opd.gv rfl hp)) rfl ?_
    refine St.ev _ (Ev.move (Opd.mk rfl)) rfl ?_
    refine St.gf _ rfl rfl (fun hg => Ev.move (Opd.mk rfl)) rfl ?_
    refine St.gf _ rfl rfl (fun hg => Ev.move (Opd.mk rfl)) rfl ?_
    refine St.gf _ rfl rfl (fun hg => Ev.lensl (Opd.gv rfl hg) Try.underlying35) rfl ?_
    refine St.gf _ rfl rfl (fun hg => Ev.gtr (Opd.gv rfl hg) (Opd.mk rfl)) rfl ?_
    refine St.gf _ rfl rfl (fun hg => Ev.boolneq (Opd.gv rfl hg) (Opd.gv rfl hg) Try.underlying4) rfl ?_
    refine St.ev _ (Ev.or (Opd.mk rfl) (fun hp => Opd.gv rfl hp)) rfl ?_
    refine St.nil ?_
    refine St.then_normal ?_
    refine St.condf _ rfl (by simp [hwl, head_some]) ?_
    refine St.skip ?_
    refine St.then_normal ?_
    refine St.seq ?_
    refine St.seq ?_
    refine St.rg ?_
    refine St.ev _ (Ev.move (Opd.mk rfl)) rfl ?_
    refine St.ev _ (Ev.move (Opd.mk rfl)) rfl ?_
    refine St.split 104 _ rfl (fun hsp => ?_) (fun hsp => ?_)
    · skip
      obtain ⟨g0, gs, hgd⟩ : ∃ g0 gs, good rules ks = g0 :: gs := by
        cases hgd : good rules ks with
        | nil => rw [hgd] at hsp; cases hsp
        | cons a b => exact ⟨a, b, rfl⟩
      obtain ⟨w0, hw0⟩ := some_of_lt (show 0 < ws.length by rw [hwl, hgd]; simp)
      refine St.ptw (vs := ws) 0 hw0 (show (good rules ks)[0]? = some g0 by rw [hgd]; rfl) ?_
      have hfd : (good rules ks).head?.getD [] = g0 := by rw [hgd]; rfl
      refine St.takeg rfl rfl ?_
      refine St.ev _ (Ev.move (Opd.mk rfl)) rfl ?_
      refine St.takeg rfl rfl ?_
      refine St.ev _ (Ev.move (Opd.mk rfl)) rfl ?_
      refine St.takeg rfl rfl ?_
      refine St.ev _ (Ev.idxaddr (k := 0) (Opd.mk rfl) (Opd.mk rfl) Try.underlying35 sz24 rfl (by rw [hwl, hgd]; simp)) rfl ?_
      refine St.takeg rfl rfl ?_
      refine St.ev _ (Ev.ld1 (Opd.mk rfl) hw0 Try.underlying24 trivial rfl) rfl ?_
      refine St.takeg rfl rfl ?_
      refine St.ev _ (Ev.call (sameInts_spec vf w0.1 ((good rules ks).head?.getD []) g0) cb14 (Opds.cons (Opd.mk rfl) (Opds.cons (Opd.mk rfl) Opds.nil))) rfl ?_
      refine St.takeg rfl rfl ?_
      refine St.ev _ (Ev.not (Opd.mk rfl)) rfl ?_
      refine St.ev _ (Ev.pickt (Opd.mk rfl) rfl (Opd.mk rfl)) rfl ?_
      refine St.ev _ (Ev.move (Opd.mk rfl)) rfl ?_
      refine St.gf _ rfl rfl (fun hg => Ev.move (Opd.mk rfl)) rfl ?_
      refine St.gf _ rfl rfl (fun hg => Ev.not (Opd.gv rfl hg)) rfl ?_
      refine St.gf _ rfl rfl (fun hg => Ev.move (Opd.gv rfl hg)) rfl ?_
      refine St.gct _ rfl rfl (fun hg => Ev.move (Opd.mk rfl)) rfl ?_
      refine St.gct _ rfl rfl (fun hg => Ev.lensl (Opd.gv rfl hg) Try.underlying24) rfl ?_
      refine St.gct _ rfl rfl (fun hg => Ev.gtr (Opd.gv rfl hg) (Opd.mk rfl)) rfl ?_
      refine St.gf _ rfl rfl (fun hg => Ev.and (Opd.gv rfl hg) (fun hp => Opd.gv rfl (and_i hg hp))) rfl ?_
      refine St.ev _ (Ev.or (Opd.mk rfl) (fun hp => Opd.gv rfl hp)) rfl ?_
      refine St.nil ?_
      refine St.then_normal ?_
      refine St.condf _ rfl (by simp [hfd, hsp]) ?_
      refine St.skip ?_
      refine St.then_normal ?_
      refine St.seq ?_
      refine St.seq ?_
      refine St.rg ?_
      refine St.ev _ (Ev.move (Opd.mk rfl)) rfl ?_
      refine St.ev _ (Ev.lensl (Opd.mk rfl) Try.underlying35) rfl ?_
      refine St.ev _ (Ev.gtr (Opd.mk rfl) (Opd.mk rfl)) rfl ?_
      refine St.nil ?_
      refine St.then_normal ?_
      refine St.cond _ rfl (fun h123 => ?_) (fun h123 => ?_)
      · skip
        try simp only [Bool.and_true, Bool.true_and, decide_eq_true_eq, decide_eq_false_iff_not, Bool.and_eq_true, Bool.or_eq_true, Bool.and_eq_false_iff, Bool.or_eq_false_iff, Bool.not_eq_true', Bool.not_eq_false', beq_iff_eq, beq_eq_false_iff_ne, Int.not_lt, Int.not_le] at h123
        have eO : ordersOf rules ks = ([], (17, 0)) := by rw [ordersOf_eq, if_neg (by omega), if_pos (by omega)]
        rw [eO] at hvl
        rw [eO]
        have hv0 : vs.length = 0 := hvl
        refine St.seq ?_
        refine St.rg ?_
        refine St.ev _ (Ev.ldbA (Opd.mk rfl) Try.underlying27 trivial (by exact sz27)) rfl ?_
        refine St.ev _ (Ev.build (ps := [(0, (Operand.const (Value.int IntKind.i64 17)))]) (Opds.cons (Opd.mk rfl) Opds.nil) (fun w => bld27_0 rfl w)) rfl ?_
        refine St.ev _ (Ev.structeql (Opd.mk rfl) (Opd.mk rfl) Try.eqGuardType27 (fun w => eqf27 _ _ _ _ w)) rfl ?_
        refine St.ev _ (Ev.move (Opd.mk rfl)) rfl ?_
        refine St.gt _ rfl rfl (fun hg => Ev.move (Opd.mk rfl)) rfl ?_
        refine St.gt _ rfl rfl (fun hg => Ev.lensl (Opd.gv rfl hg) Try.underlying35) rfl ?_
        refine St.gt _ rfl rfl (fun hg => Ev.eql (Opd.gv rfl hg) (Opd.mk rfl)) rfl ?_
        refine St.ev _ (Ev.and (Opd.mk rfl) (fun hp => Opd.gv rfl hp)) rfl ?_
        refine St.ev _ (Ev.assign (Opd.mk rfl)) rfl ?_
        refine St.nil ?_
        refine St.then_normal ?_
        refine St.rett ?_
        refine St.then_ret ?_
        refine St.rets [_] [] Try.results6 ⟨rfl, trivial⟩ ?_ (fun _ hw => hw.sub)
        exact be (by simp [hv0])
      · skip
        try simp only [Bool.and_true, Bool.true_and, decide_eq_true_eq, decide_eq_false_iff_not, Bool.and_eq_true, Bool.or_eq_true, Bool.and_eq_false_iff, Bool.or_eq_false_iff, Bool.not_eq_true', Bool.not_eq_false', beq_iff_eq, beq_eq_false_iff_ne, Int.not_lt, Int.not_le] at h123
        have eO : ordersOf rules ks = (good rules ks, (0, 0)) := by rw [ordersOf_eq, if_neg (by omega), if_neg (by omega)]
        rw [eO] at hvl
        rw [eO]
        have hvl : vs.length = (good rules ks).length := hvl
        refine St.skip ?_
        refine St.then_normal ?_
        refine St.seq ?_
        refine St.rg ?_
        refine St.ev _ (Ev.fldb0 (Opd.mk rfl) fo27_0) rfl ?_
        refine St.ev _ (Ev.ldb (Opd.mk rfl) Try.underlying3 trivial (by rfl)) rfl ?_
        refine St.ev _ (Ev.eql (Opd.mk rfl) (Opd.mk rfl)) rfl ?_
        refine St.ev _ (Ev.move (Opd.mk rfl)) rfl ?_
        refine St.gt _ rfl rfl (fun hg => Ev.move (Opd.mk rfl)) rfl ?_
        refine St.gt _ rfl rfl (fun hg => Ev.move (Opd.mk rfl)) rfl ?_
        refine St.gt _ rfl rfl (fun hg => Ev.call (sameIntLists_spec vo v81 vs ws (good rules ks) (good rules ks) hvl hwl) cb20 (Opds.cons (Opd.gv rfl hg) (Opds.cons (Opd.gv rfl hg) Opds.nil))) rfl ?_
        refine St.ev _ (Ev.and (Opd.mk rfl) (fun hp => Opd.gv rfl hp)) rfl ?_
        refine St.ev _ (Ev.assign (Opd.mk rfl)) rfl ?_
        refine St.nil ?_
        refine St.then_normal ?_
        refine St.rett ?_
        refine St.rets [_] [] Try.results6 ⟨rfl, trivial⟩ ?_ (fun _ hw => hw.sub)
        exact be (by simp)
    · skip
      have hfd : (good rules ks).head?.getD [] = [] := by cases hgd : good rules ks with | nil => rfl | cons a b => rw [hgd] at hsp; cases hsp
      refine St.skipg rfl rfl rfl ?_
      refine St.skipg rfl rfl rfl ?_
      refine St.skipg rfl rfl rfl ?_
      refine St.skipg rfl rfl rfl ?_
      refine St.skipg rfl rfl rfl ?_
      refine St.skipg rfl rfl rfl ?_
      refine St.ev _ (Ev.pickf (Opd.mk rfl) rfl (Opd.mk rfl)) rfl ?_
      refine St.ev _ (Ev.move (Opd.mk rfl)) rfl ?_
      refine St.takeg rfl rfl ?_
      refine St.ev _ (Ev.move (Opd.mk rfl)) rfl ?_
      refine St.takeg rfl rfl ?_
      refine St.ev _ (Ev.not (Opd.mk rfl)) rfl ?_
      refine St.takeg rfl rfl ?_
      refine St.ev _ (Ev.move (Opd.mk rfl)) rfl ?_
      refine St.gt _ rfl rfl (fun hg => Ev.move (Opd.mk rfl)) rfl ?_
      refine St.gt _ rfl rfl (fun hg => Ev.lensl (Opd.gv rfl hg) Try.underlying24) rfl ?_
      refine St.gt _ rfl rfl (fun hg => Ev.gtr (Opd.gv rfl hg) (Opd.mk rfl)) rfl ?_
      refine St.takeg rfl rfl ?_
      refine St.ev _ (Ev.and (Opd.mk rfl) (fun hp => Opd.gv rfl hp)) rfl ?_
      refine St.ev _ (Ev.pickf (Opd.mk rfl) rfl (Opd.mk rfl)) rfl ?_
      refine St.nil ?_
      refine St.then_normal ?_
      refine St.condf _ rfl (by simp [hfd, hsp]) ?_
      refine St.skip ?_
      refine St.then_normal ?_
      refine St.seq ?_
      refine St.seq ?_
      refine St.rg ?_
      refine St.ev _ (Ev.move (Opd.mk rfl)) rfl ?_
      refine St.ev _ (Ev.lensl (Opd.mk rfl) Try.underlying35) rfl ?_
      refine St.ev _ (Ev.gtr (Opd.mk rfl) (Opd.mk rfl)) rfl ?_
      refine St.nil ?_
      refine St.then_normal ?_
      refine St.cond _ rfl (fun h123 => ?_) (fun h123 => ?_)
      · skip
        try simp only [Bool.and_true, Bool.true_and, decide_eq_true_eq, decide_eq_false_iff_not, Bool.and_eq_true, Bool.or_eq_true, Bool.and_eq_false_iff, Bool.or_eq_false_iff, Bool.not_eq_true', Bool.not_eq_false', beq_iff_eq, beq_eq_false_iff_ne, Int.not_lt, Int.not_le] at h123
        have eO : ordersOf rules ks = ([], (17, 0)) := by rw [ordersOf_eq, if_neg (by omega), if_pos (by omega)]
        rw [eO] at hvl
        rw [eO]
        have hv0 : vs.length = 0 := hvl
        refine St.seq ?_
        refine St.rg ?_
        refine St.ev _ (Ev.ldbA (Opd.mk rfl) Try.underlying27 trivial (by exact sz27)) rfl ?_
        refine St.ev _ (Ev.build (ps := [(0, (Operand.const (Value.int IntKind.i64 17)))]) (Opds.cons (Opd.mk rfl) Opds.nil) (fun w => bld27_0 rfl w)) rfl ?_
        refine St.ev _ (Ev.structeql (Opd.mk rfl) (Opd.mk rfl) Try.eqGuardType27 (fun w => eqf27 _ _ _ _ w)) rfl ?_
        refine St.ev _ (Ev.move (Opd.mk rfl)) rfl ?_
        refine St.gt _ rfl rfl (fun hg => Ev.move (Opd.mk rfl)) rfl ?_
        refine St.gt _ rfl rfl (fun hg => Ev.lensl (Opd.gv rfl hg) Try.underlying35) rfl ?_
        refine St.gt _ rfl rfl (fun hg => Ev.eql (Opd.gv rfl hg) (Opd.mk rfl)) rfl ?_
        refine St.ev _ (Ev.and (Opd.mk rfl) (fun hp => Opd.gv rfl hp)) rfl ?_
        refine St.ev _ (Ev.assign (Opd.mk rfl)) rfl ?_
        refine St.nil ?_
        refine St.then_normal ?_
        refine St.rett ?_
        refine St.then_ret ?_
        refine St.rets [_] [] Try.results6 ⟨rfl, trivial⟩ ?_ (fun _ hw => hw.sub)
        exact be (by simp [hv0])
      · skip
        try simp only [Bool.and_true, Bool.true_and, decide_eq_true_eq, decide_eq_false_iff_not, Bool.and_eq_true, Bool.or_eq_true, Bool.and_eq_false_iff, Bool.or_eq_false_iff, Bool.not_eq_true', Bool.not_eq_false', beq_iff_eq, beq_eq_false_iff_ne, Int.not_lt, Int.not_le] at h123
        have eO : ordersOf rules ks = (good rules ks, (0, 0)) := by rw [ordersOf_eq, if_neg (by omega), if_neg (by omega)]
        rw [eO] at hvl
        rw [eO]
        have hvl : vs.length = (good rules ks).length := hvl
        refine St.skip ?_
        refine St.then_normal ?_
        refine St.seq ?_
        refine St.rg ?_
        refine St.ev _ (Ev.fldb0 (Opd.mk rfl) fo27_0) rfl ?_
        refine St.ev _ (Ev.ldb (Opd.mk rfl) Try.underlying3 trivial (by rfl)) rfl ?_
        refine St.ev _ (Ev.eql (Opd.mk rfl) (Opd.mk rfl)) rfl ?_
        refine St.ev _ (Ev.move (Opd.mk rfl)) rfl ?_
        refine St.gt _ rfl rfl (fun hg => Ev.move (Opd.mk rfl)) rfl ?_
        refine St.gt _ rfl rfl (fun hg => Ev.move (Opd.mk rfl)) rfl ?_
        refine St.gt _ rfl rfl (fun hg => Ev.call (sameIntLists_spec vo v81 vs ws (good rules ks) (good rules ks) hvl hwl) cb20 (Opds.cons (Opd.gv rfl hg) (Opds.cons (Opd.gv rfl hg) Opds.nil))) rfl ?_
        refine St.ev _ (Ev.and (Opd.mk rfl) (fun hp => Opd.gv rfl hp)) rfl ?_
        refine St.ev _ (Ev.assign (Opd.mk rfl)) rfl ?_
        refine St.nil ?_
        refine St.then_normal ?_
        refine St.rett ?_
        refine St.rets [_] [] Try.results6 ⟨rfl, trivial⟩ ?_ (fun _ hw => hw.sub)
        exact be (by simp)

end Go.Proofs.Ytblnbjlcpleaaaa
