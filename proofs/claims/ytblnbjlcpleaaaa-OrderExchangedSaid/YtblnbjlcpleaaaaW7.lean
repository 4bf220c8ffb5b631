/-
  The closed example, and the law of Allowed.
  Conditions: none.
-/
import Derived.Test.YtblnbjlcpleaaaaW6
set_option linter.unusedSimpArgs false
set_option linter.unusedVariables false
namespace Go.Proofs.Ytblnbjlcpleaaaa
open Go Go.J


theorem readyOrders : ordersOf [⟨3, [118], []⟩] [[118], [110], [110]] = ([[0, 1, 2], [0, 2, 1]], (0, 0)) := by kernel_rfl
theorem two_of {α : Type} {l : List α} (h : l.length = 2) : ∃ a b, l = [a, b] := by
  match l, h with
  | [a, b], _ => exact ⟨a, b, rfl⟩

theorem orderReady_spec : FnV Try.prog 9 #[] [] (.bool true) := by
  have readyO := fun a b => Orders_spec a b [⟨3, [118], []⟩] [[118], [110], [110]]
  rw [readyOrders] at readyO
  refine FnV.body0 (args := []) 34 Try.func9 rfl Try.ntmps9 rfl (fun c => ?_)
  refine St.seq ?_
  refine St.rg ?_
  refine St.ev _ (Ev.assign (Opd.mk rfl)) rfl ?_
  refine St.nil ?_
  refine St.then_normal ?_
  refine St.seq ?_
  refine St.rg ?_
  refine St.ev _ (Ev.build (ps := [(0, (Operand.const (Value.int IntKind.i64 3))), (1, (Operand.const (Value.string { data := #[118] })))]) (Opds.cons (Opd.mk rfl) (Opds.cons (Opd.mk rfl) Opds.nil)) (fun w => bld34_0_1 rfl rfl w)) rfl ?_
  refine St.buildSl (xs := [(Operand.tmp 4)]) (ps := [(0, (Operand.tmp 4))]) rfl (Opds.cons (Opd.mk rfl) Opds.nil) Try.underlying22 sz34 zv34 rfl rfl (by simp [Value.cells]) rfl rfl (fun b5 => ?_)
  refine St.publish (.slice (some ⟨b5, 0, none⟩) 1 1) precR [⟨3, [118], []⟩] rfl rfl (by intro x hx; obtain rfl := List.mem_singleton.1 hx; exact ⟨by unfold i64ok; decide, by decide, by decide⟩) ?_
  refine St.ev _ (Ev.assign (Opd.mk rfl)) rfl ?_
  refine St.nil ?_
  refine St.then_normal ?_
  refine St.seq ?_
  refine St.rg ?_
  refine St.ev _ (Ev.move (Opd.mk rfl)) rfl ?_
  refine St.buildSl (xs := [(Operand.const (Value.string { data := #[118] })), (Operand.const (Value.string { data := #[110] })), (Operand.const (Value.string { data := #[110] }))]) (ps := [(0, (Operand.const (Value.string { data := #[118] }))), (1, (Operand.const (Value.string { data := #[110] }))), (2, (Operand.const (Value.string { data := #[110] })))]) rfl (Opds.cons (Opd.mk rfl) (Opds.cons (Opd.mk rfl) (Opds.cons (Opd.mk rfl) Opds.nil))) Try.underlying23 sz9 zv9 rfl rfl (by simp [Value.cells]) rfl rfl (fun b8 => ?_)
  refine St.publish (.slice (some ⟨b8, 0, none⟩) 3 3) strR [[118], [110], [110]] rfl rfl (by intro x hx; simp only [List.mem_cons, List.not_mem_nil, or_false] at hx; rcases hx with rfl | rfl | rfl <;> exact show _ ≤ 9223372036854775807 by decide) ?_
  refine St.calld (readyO (.slice (some ⟨b5, 0, none⟩) 1 1) (.slice (some ⟨b8, 0, none⟩) 3 3)) cb13 (Opds.cons (Opd.mk rfl) (Opds.cons (Opd.mk rfl) Opds.nil)) rfl ?_
  rintro v9 _ ⟨vo, vs, hvl, rfl, rfl⟩
  refine St.app2 ?_
  obtain ⟨u0, u1, rfl⟩ := two_of hvl
  refine St.ptw (vs := [u0, u1]) 0 rfl rfl ?_
  refine St.ptw (vs := [u0, u1]) 1 rfl rfl ?_
  refine St.ev _ (Ev.move (Opd.mk rfl)) rfl ?_
  refine St.ev _ (Ev.extract (Opd.mk rfl) rfl) rfl ?_
  refine St.ev _ (Ev.extract (Opd.mk rfl) rfl) rfl ?_
  refine St.alloc zc27 rfl (fun b3 => ?_)
  refine St.ev _ (Ev.assign (Opd.mk rfl)) rfl ?_
  refine St.storeA (Opd.mk rfl) (Opd.mk rfl) sz27 (by first | simp only [List.length_cons, List.length_nil] | rfl) rfl ?_
  refine St.nil ?_
  refine St.then_normal ?_
  refine St.seq ?_
  refine St.rg ?_
  refine St.ev _ (Ev.fldb0 (Opd.mk rfl) fo27_0) rfl ?_
  refine St.ev _ (Ev.ldb (Opd.mk rfl) Try.underlying3 trivial (by rfl)) rfl ?_
  refine St.ev _ (Ev.eql (Opd.mk rfl) (Opd.mk rfl)) rfl ?_
  refine St.ev _ (Ev.move (Opd.mk rfl)) rfl ?_
  refine St.known 15 _ true rfl (by decide) ?_
  refine St.takeg rfl rfl ?_
  refine St.ev _ (Ev.move (Opd.mk rfl)) rfl ?_
  refine St.takeg rfl rfl ?_
  refine St.ev _ (Ev.lensl (Opd.mk rfl) Try.underlying35) rfl ?_
  refine St.takeg rfl rfl ?_
  refine St.ev _ (Ev.eql (Opd.mk rfl) (Opd.mk rfl)) rfl ?_
  refine St.ev _ (Ev.pickt (Opd.mk rfl) rfl (Opd.mk rfl)) rfl ?_
  refine St.ev _ (Ev.move (Opd.mk rfl)) rfl ?_
  refine St.known 20 _ true rfl (by simp) ?_
  refine St.takeg rfl rfl ?_
  refine St.ev _ (Ev.move (Opd.mk rfl)) rfl ?_
  refine St.takeg rfl rfl ?_
  refine St.ev _ (Ev.idxaddr (k := 0) (Opd.mk rfl) (Opd.mk rfl) Try.underlying35 sz24 rfl (by simp)) rfl ?_
  refine St.takeg rfl rfl ?_
  refine St.ev _ (Ev.ld1 (Opd.mk rfl) (show [u0, u1][0]? = some u0 from rfl) Try.underlying24 trivial rfl) rfl ?_
  refine St.takeg rfl rfl ?_
  refine St.buildSl (xs := [(Operand.const (Value.int IntKind.i64 0)), (Operand.const (Value.int IntKind.i64 1)), (Operand.const (Value.int IntKind.i64 2))]) (ps := [(0, (Operand.const (Value.int IntKind.i64 0))), (1, (Operand.const (Value.int IntKind.i64 1))), (2, (Operand.const (Value.int IntKind.i64 2)))]) rfl (Opds.cons (Opd.mk rfl) (Opds.cons (Opd.mk rfl) (Opds.cons (Opd.mk rfl) Opds.nil))) Try.underlying24 sz3 zv3 rfl rfl (by simp [Value.cells]) rfl rfl (fun b24 => ?_)
  refine St.publish (.slice (some ⟨b24, 0, none⟩) 3 3) intR [0, 1, 2] rfl rfl (by intro x hx; simp only [List.mem_cons, List.not_mem_nil, or_false] at hx; rcases hx with rfl | rfl | rfl <;> (unfold intR i64ok; decide)) ?_
  refine St.takeg rfl rfl ?_
  refine St.ev _ (Ev.call (sameInts_spec u0.1 (.slice (some ⟨b24, 0, none⟩) 3 3) [0, 1, 2] [0, 1, 2]) cb14 (Opds.cons (Opd.mk rfl) (Opds.cons (Opd.mk rfl) Opds.nil))) rfl ?_
  refine St.ev _ (Ev.pickt (Opd.mk rfl) rfl (Opd.mk rfl)) rfl ?_
  refine St.ev _ (Ev.move (Opd.mk rfl)) rfl ?_
  refine St.known 27 _ true rfl (by decide) ?_
  refine St.takeg rfl rfl ?_
  refine St.ev _ (Ev.move (Opd.mk rfl)) rfl ?_
  refine St.takeg rfl rfl ?_
  refine St.ev _ (Ev.idxaddr (k := 1) (Opd.mk rfl) (Opd.mk rfl) Try.underlying35 sz24 rfl (by simp)) rfl ?_
  refine St.takeg rfl rfl ?_
  refine St.ev _ (Ev.ld1 (Opd.mk rfl) (show [u0, u1][1]? = some u1 from rfl) Try.underlying24 trivial rfl) rfl ?_
  refine St.takeg rfl rfl ?_
  refine St.buildSl (xs := [(Operand.const (Value.int IntKind.i64 0)), (Operand.const (Value.int IntKind.i64 2)), (Operand.const (Value.int IntKind.i64 1))]) (ps := [(0, (Operand.const (Value.int IntKind.i64 0))), (1, (Operand.const (Value.int IntKind.i64 2))), (2, (Operand.const (Value.int IntKind.i64 1)))]) rfl (Opds.cons (Opd.mk rfl) (Opds.cons (Opd.mk rfl) (Opds.cons (Opd.mk rfl) Opds.nil))) Try.underlying24 sz3 zv3 rfl rfl (by simp [Value.cells]) rfl rfl (fun b31 => ?_)
  refine St.publish (.slice (some ⟨b31, 0, none⟩) 3 3) intR [0, 2, 1] rfl rfl (by intro x hx; simp only [List.mem_cons, List.not_mem_nil, or_false] at hx; rcases hx with rfl | rfl | rfl <;> (unfold intR i64ok; decide)) ?_
  refine St.takeg rfl rfl ?_
  refine St.ev _ (Ev.call (sameInts_spec u1.1 (.slice (some ⟨b31, 0, none⟩) 3 3) [0, 2, 1] [0, 2, 1]) cb14 (Opds.cons (Opd.mk rfl) (Opds.cons (Opd.mk rfl) Opds.nil))) rfl ?_
  refine St.ev _ (Ev.pickt (Opd.mk rfl) rfl (Opd.mk rfl)) rfl ?_
  refine St.ev _ (Ev.assign (Opd.mk rfl)) rfl ?_
  refine St.nil ?_
  refine St.then_normal ?_
  refine St.rett ?_
  refine St.rets [_] [] Try.results9 ⟨rfl, trivial⟩ ?_ (fun _ hw => hw.sub)
  exact be (by decide)


theorem fault0_code {rules : List Prec} {ks : List Str} {l : List Int} (h : (fault0 rules ks l).1 = 0) : fault0 rules ks l = (0, 0) := by
  unfold fault0 at h ⊢
  split at h
  · rename_i h1; exact absurd h h1
  · rename_i h1
    rw [if_neg h1]
    split at h
    · cases h
    · rename_i h2; rw [if_neg h2]
theorem faultOf_code {rules : List Prec} {ks : List Str} {l : List Int} (h : (faultOf rules ks l).1 = 0) : faultOf rules ks l = (0, 0) := by
  unfold faultOf at h ⊢
  split at h
  · rename_i h1; exact absurd h h1
  · rename_i h1; rw [if_neg h1]; exact ofF_code _ _ _ h
theorem faultOf_ok {rules : List Prec} {ks : List Str} {l : List Int} (h : faultOf rules ks l = (0, 0)) : l.length = ks.length ∧ ks.length ≤ 7 ∧ (∀ p ∈ rules, kindOk p) ∧ ∀ i ∈ l, 0 ≤ i ∧ i < ks.length := by
  unfold faultOf at h
  split at h
  · rename_i h1; rw [h] at h1; exact absurd rfl h1
  · rename_i h1
    have h1 : (fault0 rules ks l).1 = 0 := Classical.not_not.1 h1
    have hlo := ofF_ok _ _ _ h
    unfold fault0 at h1
    split at h1
    · rename_i h2; exact absurd h1 h2
    · rename_i h2
      have hc := chk_ok (Classical.not_not.1 h2)
      split at h1
      · cases h1
      · rename_i h3; exact ⟨by omega, hc.2, hc.1, hlo⟩
theorem fault_step {rules : List Prec} {ks : List Str} {l : List Int} {k : Nat} {x : Int} (h : faultOf rules ks l = ofF ks.length (l.take k) (l.drop k)) (hx : l[k]? = some x) (h1 : ¬ (x < 0 ∨ (ks.length : Int) ≤ x)) :
    faultOf rules ks l = if ((l.take k).any fun y => decide (x = y)) then (7, (k : Int)) else ofF ks.length (l.take (k + 1)) (l.drop (k + 1)) := by rw [h, ofF_step hx, if_neg h1]
theorem anyc {l : List Int} {j : Nat} {x : Int} (hj : j < l.length) : ((l.take (j + 1)).any fun y => decide (x = y)) = (((l.take j).any fun y => decide (x = y)) || decide (x = l.getD j 0)) := by
  rw [take_of_some (some_getD 0 hj), List.any_append]; simp

theorem law3_spec (v0 v1 v2 : Value) (rules : List Prec) (ks : List Str) (l : List Int) : FnV Try.prog 3 #[v0, v1, v2] [sl precR v0 rules, sl strR v1 ks, sl intR v2 l] (.bool true) := by
  refine FnV.body3 (args := [v0, v1, v2]) 113 Try.func3 rfl Try.ntmps3 rfl (fun c => ?_)
  refine St.seq ?_
  refine St.wf v1 (fun hwf1 hlen1 => ?_)
  refine St.wf v2 (fun hwf hlen => ?_)
  refine St.rg ?_
  refine St.ev _ (Ev.assign (Opd.mk rfl)) rfl ?_
  refine St.nil ?_
  refine St.then_normal ?_
  refine St.seq ?_
  refine St.seq ?_
  refine St.rg ?_
  refine St.ev _ (Ev.call (orderReady_spec) cb9 (Opds.nil)) rfl ?_
  refine St.ev _ (Ev.not (Opd.mk rfl)) rfl ?_
  refine St.nil ?_
  refine St.then_normal ?_
  refine St.condf _ rfl rfl ?_
  refine St.skip ?_
  refine St.then_normal ?_
  refine St.seq ?_
  refine St.rg ?_
  refine St.ev _ (Ev.move (Opd.mk rfl)) rfl ?_
  refine St.ev _ (Ev.move (Opd.mk rfl)) rfl ?_
  refine St.ev _ (Ev.move (Opd.mk rfl)) rfl ?_
  refine St.ev _ (Ev.call (Allowed_spec v0 v1 v2 rules ks l) cb10 (Opds.cons (Opd.mk rfl) (Opds.cons (Opd.mk rfl) (Opds.cons (Opd.mk rfl) Opds.nil)))) rfl ?_
  refine St.ev _ (Ev.move (Opd.mk rfl)) rfl ?_
  refine St.ev _ (Ev.extract (Opd.mk rfl) rfl) rfl ?_
  refine St.ev _ (Ev.extract (Opd.mk rfl) rfl) rfl ?_
  refine St.ev _ (Ev.extract (Opd.mk rfl) rfl) rfl ?_
  refine St.alloc zc27 rfl (fun b9 => ?_)
  refine St.ev _ (Ev.assign (Opd.mk rfl)) rfl ?_
  refine St.ev _ (Ev.assign (Opd.mk rfl)) rfl ?_
  refine St.storeA (Opd.mk rfl) (Opd.mk rfl) sz27 (by first | simp only [List.length_cons, List.length_nil] | rfl) rfl ?_
  refine St.nil ?_
  refine St.then_normal ?_
  refine St.seq ?_
  refine St.rg ?_
  refine St.ev _ (Ev.move (Opd.mk rfl)) rfl ?_
  refine St.ev _ (Ev.move (Opd.mk rfl)) rfl ?_
  refine St.ev _ (Ev.call (OrderKinds_spec v0 v1 rules ks) cb11 (Opds.cons (Opd.mk rfl) (Opds.cons (Opd.mk rfl) Opds.nil))) rfl ?_
  refine St.alloc zc27 rfl (fun b10 => ?_)
  refine St.storeA (Opd.mk rfl) (Opd.mk rfl) sz27 (by first | simp only [List.length_cons, List.length_nil] | rfl) rfl ?_
  refine St.nil ?_
  refine St.then_normal ?_
  refine St.join (ι := Int × Int) (fun g T => T) (fun g => [blk b9 (.cells #[iv (allowedOf rules ks l).2.2.1, iv (allowedOf rules ks l).2.2.2] 27 (0, 0)), blk b10 (.cells #[iv g.1, iv g.2] 27 (0, 0)), dat (sl precR v0 rules), dat (sl strR v1 ks), dat (sl intR v2 l)]) (fun g => g = fault0 rules ks l) (Keep.cons 0 rfl (Keep.cons 1 rfl (Keep.cons 2 rfl (Keep.cons 6 rfl (Keep.cons 7 rfl (Keep.cons 8 rfl (Keep.cons 9 rfl (Keep.cons 10 rfl Keep.nil)))))))) ?_ ?_
  · skip
    refine St.seq ?_
    refine St.rg ?_
    refine St.ev _ (Ev.fldb0 (Opd.mk rfl) fo27_0) rfl ?_
    refine St.ev _ (Ev.ldb (Opd.mk rfl) Try.underlying3 trivial (by rfl)) rfl ?_
    refine St.ev _ (Ev.eql (Opd.mk rfl) (Opd.mk rfl)) rfl ?_
    refine St.ev _ (Ev.move (Opd.mk rfl)) rfl ?_
    refine St.gt _ rfl rfl (fun hg => Ev.move (Opd.mk rfl)) rfl ?_
    refine St.gt _ rfl rfl (fun hg => Ev.lensl (Opd.gv rfl hg) Try.underlying24) rfl ?_
    refine St.gt _ rfl rfl (fun hg => Ev.move (Opd.mk rfl)) rfl ?_
    refine St.gt _ rfl rfl (fun hg => Ev.lensl (Opd.gv rfl hg) Try.underlying23) rfl ?_
    refine St.gt _ rfl rfl (fun hg => Ev.neq (Opd.gv rfl hg) (Opd.gv rfl hg)) rfl ?_
    refine St.ev _ (Ev.and (Opd.mk rfl) (fun hp => Opd.gv rfl hp)) rfl ?_
    refine St.nil ?_
    refine St.then_normal ?_
    refine St.cond _ rfl (fun h36 => ?_) (fun h36 => ?_)
    · skip
      try simp only [Bool.and_true, Bool.true_and, decide_eq_true_eq, decide_eq_false_iff_not, Bool.and_eq_true, Bool.or_eq_true, Bool.and_eq_false_iff, Bool.or_eq_false_iff, Bool.not_eq_true', Bool.not_eq_false', beq_iff_eq, beq_eq_false_iff_ne, Int.not_lt, Int.not_le] at h36
      have hf0 : fault0 rules ks l = (9, -3) := by rw [fault0, if_neg (by omega), if_pos (by omega)]
      refine St.rg ?_
      refine St.ev _ (Ev.build (ps := [(0, (Operand.const (Value.int IntKind.i64 9))), (1, (Operand.const (Value.int IntKind.i64 (-3))))]) (Opds.cons (Opd.mk rfl) (Opds.cons (Opd.mk rfl) Opds.nil)) (fun w => bld27_0_1 rfl rfl w)) rfl ?_
      refine St.storeA (Opd.mk rfl) (Opd.mk rfl) sz27 (by first | simp only [List.length_cons, List.length_nil] | rfl) rfl ?_
      refine St.nil ?_
      refine St.then_normal ?_
      refine St.met (9, -3) hf0.symm (by repeat (first | exact Sub.nil | refine Sub.cons (by first | rfl | exact congrArg (fun z => some (iv z)) (by first | omega | (dsimp only; omega)) | exact congrArg (fun z => some (Value.bool z)) (by first | assumption | exact Eq.symm (by assumption))) ?_)) (fun _ hw => hw.sub)
    · skip
      try simp only [Bool.and_true, Bool.true_and, decide_eq_true_eq, decide_eq_false_iff_not, Bool.and_eq_true, Bool.or_eq_true, Bool.and_eq_false_iff, Bool.or_eq_false_iff, Bool.not_eq_true', Bool.not_eq_false', beq_iff_eq, beq_eq_false_iff_ne, Int.not_lt, Int.not_le] at h36
      have hf0 : fault0 rules ks l = chk rules ks := by
        by_cases hc : (chk rules ks).1 = 0
        · rw [fault0, if_neg (by omega), if_neg (by omega), chk_code hc]
        · rw [fault0, if_pos hc]
      refine St.skip ?_
      refine St.then_normal ?_
      refine St.met (chk rules ks) hf0.symm (by repeat (first | exact Sub.nil | refine Sub.cons (by first | rfl | exact congrArg (fun z => some (iv z)) (by first | omega | (dsimp only; omega)) | exact congrArg (fun z => some (Value.bool z)) (by first | assumption | exact Eq.symm (by assumption))) ?_)) (fun _ hw => hw.sub)
  · skip
    intro g hphi
    refine St.seq ?_
    refine St.seq ?_
    refine St.rg ?_
    refine St.ev _ (Ev.assign (Opd.mk rfl)) rfl ?_
    refine St.nil ?_
    refine St.then_normal ?_
    refine St.block ?_
    have h0 : 0 ≤ l.length ∧ ((g.1 ≠ 0 ∧ faultOf rules ks l = g) ∨ (g = (0, 0) ∧ (fault0 rules ks l).1 = 0 ∧ faultOf rules ks l = ofF ks.length (l.take 0) (l.drop 0))) := by
      refine ⟨Nat.zero_le _, ?_⟩
      by_cases hg0 : g.1 = 0
      · right
        have hz : fault0 rules ks l = (0, 0) := fault0_code (by rw [← hphi]; exact hg0)
        exact ⟨hphi.trans hz, by rw [hz], by rw [faultOf, hz]; rfl⟩
      · left; exact ⟨hg0, by rw [faultOf, ← hphi, if_pos hg0]⟩
    refine St.loopH2 (ι := Nat) (κ := Int × Int) (fun k g T => (11, iv k) :: T) (fun k g => [blk b9 (.cells #[iv (allowedOf rules ks l).2.2.1, iv (allowedOf rules ks l).2.2.2] 27 (0, 0)), blk b10 (.cells #[iv g.1, iv g.2] 27 (0, 0)), dat (sl precR v0 rules), dat (sl strR v1 ks), dat (sl intR v2 l)]) (fun k g => k ≤ l.length ∧ ((g.1 ≠ 0 ∧ faultOf rules ks l = g) ∨ (g = (0, 0) ∧ (fault0 rules ks l).1 = 0 ∧ faultOf rules ks l = ofF ks.length (l.take k) (l.drop k)))) (fun k g => l.length - k) 0 g (Keep.cons 0 rfl (Keep.cons 1 rfl (Keep.cons 2 rfl (Keep.cons 6 rfl (Keep.cons 7 rfl (Keep.cons 8 rfl (Keep.cons 9 rfl (Keep.cons 10 rfl Keep.nil)))))))) h0 (by repeat (first | exact Sub.nil | refine Sub.cons (by first | rfl | exact congrArg (fun z => some (iv z)) (by first | omega | (dsimp only; omega)) | exact congrArg (fun z => some (Value.bool z)) (by first | assumption | exact Eq.symm (by assumption))) ?_)) (fun _ hw => hw.sub) ?_
    intro k g hphi
    obtain ⟨hk, hv⟩ := hphi
    refine St.seq ?_
    refine St.seq ?_
    refine St.rg ?_
    refine St.ev _ (Ev.move (Opd.mk rfl)) rfl ?_
    refine St.ev _ (Ev.move (Opd.mk rfl)) rfl ?_
    refine St.ev _ (Ev.lensl (Opd.mk rfl) Try.underlying24) rfl ?_
    refine St.ev _ (Ev.lss (Opd.mk rfl) (Opd.mk rfl)) rfl ?_
    refine St.ev _ (Ev.move (Opd.mk rfl)) rfl ?_
    refine St.gt _ rfl rfl (fun hg => Ev.fldb0 (Opd.mk rfl) fo27_0) rfl ?_
    refine St.gt _ rfl rfl (fun hg => Ev.ldb (Opd.gv rfl hg) Try.underlying3 trivial (by rfl)) rfl ?_
    refine St.gt _ rfl rfl (fun hg => Ev.eql (Opd.gv rfl hg) (Opd.mk rfl)) rfl ?_
    refine St.ev _ (Ev.and (Opd.mk rfl) (fun hp => Opd.gv rfl hp)) rfl ?_
    refine St.nil ?_
    refine St.then_normal ?_
    refine St.cond _ rfl (fun h46 => ?_) (fun h46 => ?_)
    · skip
      try simp only [Bool.and_true, Bool.true_and, decide_eq_true_eq, decide_eq_false_iff_not, Bool.and_eq_true, Bool.or_eq_true, Bool.and_eq_false_iff, Bool.or_eq_false_iff, Bool.not_eq_true', Bool.not_eq_false', beq_iff_eq, beq_eq_false_iff_ne, Int.not_lt, Int.not_le] at h46
      obtain ⟨x, hx⟩ := some_of_lt (show k < l.length by omega)
      obtain ⟨rfl, hf0, hv⟩ : g = (0, 0) ∧ (fault0 rules ks l).1 = 0 ∧ faultOf rules ks l = ofF ks.length (l.take k) (l.drop k) := by
        rcases hv with hv | hv
        · exact absurd h46.2 hv.1
        · exact hv
      refine St.skip ?_
      refine St.then_normal ?_
      refine St.seq ?_
      refine St.block ?_
      refine St.seq ?_
      refine St.seq ?_
      refine St.rg ?_
      refine St.ev _ (Ev.move (Opd.mk rfl)) rfl ?_
      refine St.ev _ (Ev.move (Opd.mk rfl)) rfl ?_
      refine St.ev _ (Ev.idxaddr  (Opd.mk rfl) (Opd.mk rfl) Try.underlying24 sz3 rfl (by omega)) rfl ?_
      refine St.ev _ (Ev.ld1 (Opd.mk rfl) hx Try.underlying3 trivial rfl) rfl ?_
      refine St.ev _ (Ev.lss (Opd.mk rfl) (Opd.mk rfl)) rfl ?_
      refine St.ev _ (Ev.move (Opd.mk rfl)) rfl ?_
      refine St.gf _ rfl rfl (fun hg => Ev.move (Opd.mk rfl)) rfl ?_
      refine St.gf _ rfl rfl (fun hg => Ev.move (Opd.mk rfl)) rfl ?_
      refine St.gf _ rfl rfl (fun hg => Ev.idxaddr  (Opd.gv rfl hg) (Opd.gv rfl hg) Try.underlying24 sz3 rfl (by first | omega | (simp only [Bool.and_true, Bool.true_and, decide_eq_true_eq, decide_eq_false_iff_not, Bool.and_eq_true, Bool.or_eq_true, Bool.and_eq_false_iff, Bool.or_eq_false_iff, Bool.not_eq_true', Bool.not_eq_false', beq_iff_eq, beq_eq_false_iff_ne, Int.not_lt, Int.not_le] at hg; omega))) rfl ?_
      refine St.gf _ rfl rfl (fun hg => Ev.ld1 (Opd.gv rfl hg) hx Try.underlying3 trivial rfl) rfl ?_
      refine St.gf _ rfl rfl (fun hg => Ev.move (Opd.mk rfl)) rfl ?_
      refine St.gf _ rfl rfl (fun hg => Ev.lensl (Opd.gv rfl hg) Try.underlying23) rfl ?_
      refine St.gf _ rfl rfl (fun hg => Ev.geq (Opd.gv rfl hg) (Opd.gv rfl hg)) rfl ?_
      refine St.ev _ (Ev.or (Opd.mk rfl) (fun hp => Opd.gv rfl hp)) rfl ?_
      refine St.nil ?_
      refine St.then_normal ?_
      refine St.cond _ rfl (fun h62 => ?_) (fun h62 => ?_)
      · skip
        try simp only [Bool.and_true, Bool.true_and, decide_eq_true_eq, decide_eq_false_iff_not, Bool.and_eq_true, Bool.or_eq_true, Bool.and_eq_false_iff, Bool.or_eq_false_iff, Bool.not_eq_true', Bool.not_eq_false', beq_iff_eq, beq_eq_false_iff_ne, Int.not_lt, Int.not_le] at h62
        refine St.seq ?_
        refine St.rg ?_
        refine St.ev _ (Ev.move (Opd.mk rfl)) rfl ?_
        refine St.ev _ (Ev.build (ps := [(0, (Operand.const (Value.int IntKind.i64 3))), (1, (Operand.tmp 63))]) (Opds.cons (Opd.mk rfl) (Opds.cons (Opd.mk rfl) Opds.nil)) (fun w => bld27_0_1 rfl rfl w)) rfl ?_
        refine St.storeA (Opd.mk rfl) (Opd.mk rfl) sz27 (by first | simp only [List.length_cons, List.length_nil] | rfl) rfl ?_
        refine St.nil ?_
        refine St.then_normal ?_
        refine St.exit ?_
        refine St.then_exit ?_
        refine St.in_miss rfl ?_
        refine St.then_exit ?_
        refine St.then_exit ?_
        refine St.in_hit ?_
        refine St.then_normal ?_
        refine St.seq ?_
        refine St.seq ?_
        refine St.rg ?_
        refine St.ev _ (Ev.fldb0 (Opd.mk rfl) fo27_0) rfl ?_
        refine St.ev _ (Ev.ldb (Opd.mk rfl) Try.underlying3 trivial (by rfl)) rfl ?_
        refine St.ev _ (Ev.neq (Opd.mk rfl) (Opd.mk rfl)) rfl ?_
        refine St.nil ?_
        refine St.then_normal ?_
        refine St.condt _ rfl (by decide) ?_
        refine St.seq ?_
        refine St.rg ?_
        refine St.ev _ (Ev.ldbA (Opd.mk rfl) Try.underlying27 trivial (by exact sz27)) rfl ?_
        refine St.ev _ (Ev.ldbA (Opd.mk rfl) Try.underlying27 trivial (by exact sz27)) rfl ?_
        refine St.ev _ (Ev.structeql (Opd.mk rfl) (Opd.mk rfl) Try.eqGuardType27 (fun w => eqf27 _ _ _ _ w)) rfl ?_
        refine St.ev _ (Ev.move (Opd.mk rfl)) rfl ?_
        refine St.gt _ rfl rfl (fun hg => Ev.move (Opd.mk rfl)) rfl ?_
        refine St.gt _ rfl rfl (fun hg => Ev.not (Opd.gv rfl hg)) rfl ?_
        refine St.ev _ (Ev.and (Opd.mk rfl) (fun hp => Opd.gv rfl hp)) rfl ?_
        refine St.ev _ (Ev.move (Opd.mk rfl)) rfl ?_
        refine St.gt _ rfl rfl (fun hg => Ev.move (Opd.mk rfl)) rfl ?_
        refine St.gt _ rfl rfl (fun hg => Ev.eql (Opd.gv rfl hg) (Opd.mk rfl)) rfl ?_
        refine St.ev _ (Ev.and (Opd.mk rfl) (fun hp => Opd.gv rfl hp)) rfl ?_
        refine St.ev _ (Ev.assign (Opd.mk rfl)) rfl ?_
        refine St.nil ?_
        refine St.then_normal ?_
        refine St.rett ?_
        refine St.then_ret ?_
        refine St.rets [_] [] Try.results3 ⟨rfl, trivial⟩ ?_ (fun _ hw => hw.sub)
        have hfa : faultOf rules ks l = (3, (k : Int)) := by rw [hv, ofF_step hx, if_pos (by omega)]
        have ha : allowedOf rules ks l = (false, 0, (3, (k : Int))) := by rw [allowedOf, hfa]; rfl
        exact be (by rw [ha]; simp)
      · skip
        try simp only [Bool.and_true, Bool.true_and, decide_eq_true_eq, decide_eq_false_iff_not, Bool.and_eq_true, Bool.or_eq_true, Bool.and_eq_false_iff, Bool.or_eq_false_iff, Bool.not_eq_true', Bool.not_eq_false', beq_iff_eq, beq_eq_false_iff_ne, Int.not_lt, Int.not_le] at h62
        have h62n : ¬ (x < 0 ∨ (ks.length : Int) ≤ x) := by omega
        refine St.skip ?_
        refine St.then_normal ?_
        refine St.seq ?_
        refine St.rg ?_
        refine St.ev _ (Ev.assign (Opd.mk rfl)) rfl ?_
        refine St.nil ?_
        refine St.then_normal ?_
        refine St.block ?_
        refine St.loopH2 (ι := Nat) (κ := Int × Int) (fun j h T => (12, iv j) :: T) (fun j h => [blk b9 (.cells #[iv (allowedOf rules ks l).2.2.1, iv (allowedOf rules ks l).2.2.2] 27 (0, 0)), blk b10 (.cells #[iv h.1, iv h.2] 27 (0, 0)), dat (sl precR v0 rules), dat (sl strR v1 ks), dat (sl intR v2 l)]) (fun j h => j ≤ k ∧ h = if ((l.take j).any fun y => decide (x = y)) then (7, (k : Int)) else (0, 0)) (fun j h => k - j) 0 (0, 0) (Keep.cons 0 rfl (Keep.cons 1 rfl (Keep.cons 2 rfl (Keep.cons 6 rfl (Keep.cons 7 rfl (Keep.cons 8 rfl (Keep.cons 9 rfl (Keep.cons 10 rfl (Keep.cons 11 rfl Keep.nil))))))))) ⟨Nat.zero_le _, rfl⟩ (by repeat (first | exact Sub.nil | refine Sub.cons (by first | rfl | exact congrArg (fun z => some (iv z)) (by first | omega | (dsimp only; omega)) | exact congrArg (fun z => some (Value.bool z)) (by first | assumption | exact Eq.symm (by assumption))) ?_)) (fun _ hw => hw.sub) ?_
        intro j h hphi
        obtain ⟨hj, hh⟩ := hphi
        refine St.seq ?_
        refine St.seq ?_
        refine St.rg ?_
        refine St.ev _ (Ev.move (Opd.mk rfl)) rfl ?_
        refine St.ev _ (Ev.move (Opd.mk rfl)) rfl ?_
        refine St.ev _ (Ev.lss (Opd.mk rfl) (Opd.mk rfl)) rfl ?_
        refine St.nil ?_
        refine St.then_normal ?_
        refine St.cond _ rfl (fun h67 => ?_) (fun h67 => ?_)
        · skip
          try simp only [Bool.and_true, Bool.true_and, decide_eq_true_eq, decide_eq_false_iff_not, Bool.and_eq_true, Bool.or_eq_true, Bool.and_eq_false_iff, Bool.or_eq_false_iff, Bool.not_eq_true', Bool.not_eq_false', beq_iff_eq, beq_eq_false_iff_ne, Int.not_lt, Int.not_le] at h67
          refine St.skip ?_
          refine St.then_normal ?_
          refine St.seq ?_
          refine St.block ?_
          refine St.seq ?_
          refine St.rq mixed (by kernel_rfl) (Mm.drawn _ _) ?_
          refine Sq.ev _ (Ev.move (Opd.mk rfl)) rfl ?_
          refine Sq.ev _ (Ev.move (Opd.mk rfl)) rfl ?_
          refine Sq.ev _ (Ev.idxaddr  (Opd.mk rfl) (Opd.mk rfl) Try.underlying24 sz3 rfl (by omega)) rfl ?_
          refine Sq.ev _ (Ev.ld1 (Opd.mk rfl) (by first | assumption | exact some_getD 0 (by omega)) Try.underlying3 trivial rfl) rfl ?_
          refine Sq.ev _ (Ev.move (Opd.mk rfl)) rfl ?_
          refine Sq.ev _ (Ev.move (Opd.mk rfl)) rfl ?_
          refine Sq.ev _ (Ev.idxaddr  (Opd.mk rfl) (Opd.mk rfl) Try.underlying24 sz3 rfl (by omega)) rfl ?_
          refine Sq.ev _ (Ev.ld1 (Opd.mk rfl) hx Try.underlying3 trivial rfl) rfl ?_
          refine Sq.ev _ (Ev.eql (Opd.mk rfl) (Opd.mk rfl)) rfl ?_
          refine Sq.nil ?_
          refine St.then_normal ?_
          refine St.cond _ rfl (fun h78 => ?_) (fun h78 => ?_)
          · skip
            try simp only [Bool.and_true, Bool.true_and, decide_eq_true_eq, decide_eq_false_iff_not, Bool.and_eq_true, Bool.or_eq_true, Bool.and_eq_false_iff, Bool.or_eq_false_iff, Bool.not_eq_true', Bool.not_eq_false', beq_iff_eq, beq_eq_false_iff_ne, Int.not_lt, Int.not_le] at h78
            refine St.rg ?_
            refine St.ev _ (Ev.move (Opd.mk rfl)) rfl ?_
            refine St.ev _ (Ev.build (ps := [(0, (Operand.const (Value.int IntKind.i64 7))), (1, (Operand.tmp 79))]) (Opds.cons (Opd.mk rfl) (Opds.cons (Opd.mk rfl) Opds.nil)) (fun w => bld27_0_1 rfl rfl w)) rfl ?_
            refine St.storeA (Opd.mk rfl) (Opd.mk rfl) sz27 (by first | simp only [List.length_cons, List.length_nil] | rfl) rfl ?_
            refine St.nil ?_
            refine St.in_normal ?_
            refine St.then_normal ?_
            refine St.rg ?_
            refine St.ev _ (Ev.move (Opd.mk rfl)) rfl ?_
            refine St.ev _ (Ev.add (Opd.mk rfl) (Opd.mk rfl) (by omega)) rfl ?_
            refine St.ev _ (Ev.assign (Opd.mk rfl)) rfl ?_
            refine St.nil ?_
            refine St.then_normal ?_
            refine St.againH2 (j + 1) (7, (k : Int)) ⟨by omega, by rw [anyc (by omega), show decide (x = l.getD j 0) = true by simpa using h78.symm, Bool.or_true, if_pos rfl]⟩ (by first | omega | (dsimp only; omega)) (by repeat (first | exact Sub.nil | refine Sub.cons (by first | rfl | exact congrArg (fun z => some (iv z)) (by first | omega | (dsimp only; omega)) | exact congrArg (fun z => some (Value.bool z)) (by first | assumption | exact Eq.symm (by assumption))) ?_)) (fun _ hw => hw.sub)
          · skip
            try simp only [Bool.and_true, Bool.true_and, decide_eq_true_eq, decide_eq_false_iff_not, Bool.and_eq_true, Bool.or_eq_true, Bool.and_eq_false_iff, Bool.or_eq_false_iff, Bool.not_eq_true', Bool.not_eq_false', beq_iff_eq, beq_eq_false_iff_ne, Int.not_lt, Int.not_le] at h78
            refine St.skip ?_
            refine St.in_normal ?_
            refine St.then_normal ?_
            refine St.rg ?_
            refine St.ev _ (Ev.move (Opd.mk rfl)) rfl ?_
            refine St.ev _ (Ev.add (Opd.mk rfl) (Opd.mk rfl) (by omega)) rfl ?_
            refine St.ev _ (Ev.assign (Opd.mk rfl)) rfl ?_
            refine St.nil ?_
            refine St.then_normal ?_
            refine St.againH2 (j + 1) h ⟨by omega, by rw [anyc (by omega), show decide (x = l.getD j 0) = false by rw [decide_eq_false_iff_not]; exact fun q => h78 q.symm, Bool.or_false]; exact hh⟩ (by first | omega | (dsimp only; omega)) (by repeat (first | exact Sub.nil | refine Sub.cons (by first | rfl | exact congrArg (fun z => some (iv z)) (by first | omega | (dsimp only; omega)) | exact congrArg (fun z => some (Value.bool z)) (by first | assumption | exact Eq.symm (by assumption))) ?_)) (fun _ hw => hw.sub)
        · skip
          try simp only [Bool.and_true, Bool.true_and, decide_eq_true_eq, decide_eq_false_iff_not, Bool.and_eq_true, Bool.or_eq_true, Bool.and_eq_false_iff, Bool.or_eq_false_iff, Bool.not_eq_true', Bool.not_eq_false', beq_iff_eq, beq_eq_false_iff_ne, Int.not_lt, Int.not_le] at h67
          refine St.exit ?_
          refine St.then_exit ?_
          refine St.then_exit ?_
          refine St.in_hit ?_
          refine St.in_normal ?_
          refine St.then_normal ?_
          refine St.rg ?_
          refine St.ev _ (Ev.move (Opd.mk rfl)) rfl ?_
          refine St.ev _ (Ev.add (Opd.mk rfl) (Opd.mk rfl) (by omega)) rfl ?_
          refine St.ev _ (Ev.assign (Opd.mk rfl)) rfl ?_
          refine St.nil ?_
          refine St.then_normal ?_
          have hy0 : k + 1 ≤ l.length ∧ ((h.1 ≠ 0 ∧ faultOf rules ks l = h) ∨ (h = (0, 0) ∧ (fault0 rules ks l).1 = 0 ∧ faultOf rules ks l = ofF ks.length (l.take (k + 1)) (l.drop (k + 1)))) := by
            have hs := fault_step hv hx h62n
            rw [show j = k by omega] at hh
            refine ⟨by omega, ?_⟩
            by_cases ha : ((l.take k).any fun y => decide (x = y)) = true
            · rw [if_pos ha] at hh hs; left; subst hh; exact ⟨by show (7 : Int) ≠ 0; decide, hs⟩
            · rw [if_neg ha] at hh hs; right; exact ⟨hh, hf0, hs⟩
          refine St.againH2 (k + 1) h hy0 (by first | omega | (dsimp only; omega)) (by repeat (first | exact Sub.nil | refine Sub.cons (by first | rfl | exact congrArg (fun z => some (iv z)) (by first | omega | (dsimp only; omega)) | exact congrArg (fun z => some (Value.bool z)) (by first | assumption | exact Eq.symm (by assumption))) ?_)) (fun _ hw => hw.sub)
    · skip
      try simp only [Bool.and_true, Bool.true_and, decide_eq_true_eq, decide_eq_false_iff_not, Bool.and_eq_true, Bool.or_eq_true, Bool.and_eq_false_iff, Bool.or_eq_false_iff, Bool.not_eq_true', Bool.not_eq_false', beq_iff_eq, beq_eq_false_iff_ne, Int.not_lt, Int.not_le] at h46
      have hfg : faultOf rules ks l = g := by
        rcases hv with hv | ⟨h1, h2, h3⟩
        · exact hv.2
        · subst h1
          rw [h3, ofF_end (by rcases h46 with q | q; omega; exact absurd rfl q)]
      refine St.exit ?_
      refine St.then_exit ?_
      refine St.then_exit ?_
      refine St.in_hit ?_
      refine St.then_normal ?_
      refine St.seq ?_
      refine St.seq ?_
      refine St.rg ?_
      refine St.ev _ (Ev.fldb0 (Opd.mk rfl) fo27_0) rfl ?_
      refine St.ev _ (Ev.ldb (Opd.mk rfl) Try.underlying3 trivial (by rfl)) rfl ?_
      refine St.ev _ (Ev.neq (Opd.mk rfl) (Opd.mk rfl)) rfl ?_
      refine St.nil ?_
      refine St.then_normal ?_
      refine St.cond _ rfl (fun h83 => ?_) (fun h83 => ?_)
      · skip
        try simp only [Bool.and_true, Bool.true_and, decide_eq_true_eq, decide_eq_false_iff_not, Bool.and_eq_true, Bool.or_eq_true, Bool.and_eq_false_iff, Bool.or_eq_false_iff, Bool.not_eq_true', Bool.not_eq_false', beq_iff_eq, beq_eq_false_iff_ne, Int.not_lt, Int.not_le] at h83
        have ha : allowedOf rules ks l = (false, 0, g) := by rw [allowedOf, hfg, if_pos (by omega)]
        refine St.seq ?_
        refine St.rg ?_
        refine St.ev _ (Ev.ldbA (Opd.mk rfl) Try.underlying27 trivial (by exact sz27)) rfl ?_
        refine St.ev _ (Ev.ldbA (Opd.mk rfl) Try.underlying27 trivial (by exact sz27)) rfl ?_
        refine St.ev _ (Ev.structeql (Opd.mk rfl) (Opd.mk rfl) Try.eqGuardType27 (fun w => eqf27 _ _ _ _ w)) rfl ?_
        refine St.ev _ (Ev.move (Opd.mk rfl)) rfl ?_
        refine St.gt _ rfl rfl (fun hg => Ev.move (Opd.mk rfl)) rfl ?_
        refine St.gt _ rfl rfl (fun hg => Ev.not (Opd.gv rfl hg)) rfl ?_
        refine St.ev _ (Ev.and (Opd.mk rfl) (fun hp => Opd.gv rfl hp)) rfl ?_
        refine St.ev _ (Ev.move (Opd.mk rfl)) rfl ?_
        refine St.gt _ rfl rfl (fun hg => Ev.move (Opd.mk rfl)) rfl ?_
        refine St.gt _ rfl rfl (fun hg => Ev.eql (Opd.gv rfl hg) (Opd.mk rfl)) rfl ?_
        refine St.ev _ (Ev.and (Opd.mk rfl) (fun hp => Opd.gv rfl hp)) rfl ?_
        refine St.ev _ (Ev.assign (Opd.mk rfl)) rfl ?_
        refine St.nil ?_
        refine St.then_normal ?_
        refine St.rett ?_
        refine St.then_ret ?_
        refine St.rets [_] [] Try.results3 ⟨rfl, trivial⟩ ?_ (fun _ hw => hw.sub)
        exact be (by rw [ha]; simp)
      · skip
        try simp only [Bool.and_true, Bool.true_and, decide_eq_true_eq, decide_eq_false_iff_not, Bool.and_eq_true, Bool.or_eq_true, Bool.and_eq_false_iff, Bool.or_eq_false_iff, Bool.not_eq_true', Bool.not_eq_false', beq_iff_eq, beq_eq_false_iff_ne, Int.not_lt, Int.not_le] at h83
        have hfz : faultOf rules ks l = (0, 0) := faultOf_code (by rw [hfg]; omega)
        obtain ⟨hll, hks, hr, hlo⟩ := faultOf_ok hfz
        have ha : allowedOf rules ks l = (decide (brokenBy rules (rowOf ks l) < 0), brokenBy rules (rowOf ks l), (0, 0)) := by rw [allowedOf, hfz]; rfl
        refine St.skip ?_
        refine St.then_normal ?_
        refine St.seq ?_
        refine St.rg ?_
        refine St.ev _ (Ev.move (Opd.mk rfl)) rfl ?_
        refine St.ev _ (Ev.move (Opd.mk rfl)) rfl ?_
        refine St.ev _ (Ev.move (Opd.mk rfl)) rfl ?_
        refine St.ev _ (Ev.call (OrderBroken_spec v0 v1 v2 rules ks l hlo (by omega)) cb12 (Opds.cons (Opd.mk rfl) (Opds.cons (Opd.mk rfl) (Opds.cons (Opd.mk rfl) Opds.nil)))) rfl ?_
        refine St.ev _ (Ev.assign (Opd.mk rfl)) rfl ?_
        refine St.nil ?_
        refine St.then_normal ?_
        refine St.seq ?_
        refine St.rg ?_
        refine St.ev _ (Ev.fldb0 (Opd.mk rfl) fo27_0) rfl ?_
        refine St.ev _ (Ev.ldb (Opd.mk rfl) Try.underlying3 trivial (by rfl)) rfl ?_
        refine St.ev _ (Ev.eql (Opd.mk rfl) (Opd.mk rfl)) rfl ?_
        refine St.ev _ (Ev.move (Opd.mk rfl)) rfl ?_
        refine St.gt _ rfl rfl (fun hg => Ev.move (Opd.mk rfl)) rfl ?_
        refine St.gt _ rfl rfl (fun hg => Ev.move (Opd.mk rfl)) rfl ?_
        refine St.gt _ rfl rfl (fun hg => Ev.eql (Opd.gv rfl hg) (Opd.gv rfl hg)) rfl ?_
        refine St.ev _ (Ev.and (Opd.mk rfl) (fun hp => Opd.gv rfl hp)) rfl ?_
        refine St.ev _ (Ev.move (Opd.mk rfl)) rfl ?_
        refine St.gt _ rfl rfl (fun hg => Ev.move (Opd.mk rfl)) rfl ?_
        refine St.gt _ rfl rfl (fun hg => Ev.move (Opd.mk rfl)) rfl ?_
        refine St.gt _ rfl rfl (fun hg => Ev.lss (Opd.gv rfl hg) (Opd.mk rfl)) rfl ?_
        refine St.gt _ rfl rfl (fun hg => Ev.booleql (Opd.gv rfl hg) (Opd.gv rfl hg) Try.underlying4) rfl ?_
        refine St.ev _ (Ev.and (Opd.mk rfl) (fun hp => Opd.gv rfl hp)) rfl ?_
        refine St.ev _ (Ev.assign (Opd.mk rfl)) rfl ?_
        refine St.nil ?_
        refine St.then_normal ?_
        refine St.rett ?_
        refine St.rets [_] [] Try.results3 ⟨rfl, trivial⟩ ?_ (fun _ hw => hw.sub)
        exact be (by rw [ha]; simp)

end Go.Proofs.Ytblnbjlcpleaaaa
