/-
  The walks that build rows of kinds and look for the first rule that is broken.
  Conditions: the rules are of the four kinds; an order holds numbers of elements, and is short.
-/
import Derived.Test.YtblnbjlcpleaaaaW2
set_option linter.unusedSimpArgs false
set_option linter.unusedVariables false
namespace Go.Proofs.Ytblnbjlcpleaaaa
open Go Go.J

theorem IndexFunc_spec (v0 : Value) (rules : List Prec) (fcl : FuncId) (hcb : Callable Try.prog fcl) (caps : List Value) (ds : List Dat) (pr : Prec → Bool) (hcl : ∀ p ∈ rules, FnV Try.prog fcl ([pv p] ++ caps).toArray ds (.bool (pr p))) :
    FnV Try.prog 42 #[v0, .func (.func fcl) #[] caps.toArray] (sl precR v0 rules :: ds) (iv (ix pr rules)) := by
  refine FnV.body1s (args := [v0, .func (.func fcl) #[] caps.toArray]) 19 Try.func42 rfl Try.ntmps42 rfl (fun c => ?_)
  refine St.seq ?_
  refine St.wf v0 (fun hwf hlen => ?_)
  refine St.rg ?_
  refine St.ev _ (Ev.assign (Opd.mk rfl)) rfl ?_
  refine St.nil ?_
  refine St.then_normal ?_
  refine St.seq ?_
  refine St.seq ?_
  refine St.rg ?_
  refine St.ev _ (Ev.move (Opd.mk rfl)) rfl ?_
  refine St.ev _ (Ev.lensl (Opd.mk rfl) Try.underlying22) rfl ?_
  refine St.ev _ (Ev.move (Opd.mk rfl)) rfl ?_
  refine St.nil ?_
  refine St.then_normal ?_
  refine St.block ?_
  refine St.loopS (ι := Nat) (fun k T => (8, iv k) :: T) (fun k => k ≤ rules.length ∧ (rules.take k).all (fun y => !pr y) = true) (fun k => rules.length - k) 0 (Keep.cons 0 rfl (Keep.cons 1 rfl (Keep.cons 7 rfl Keep.nil))) ⟨Nat.zero_le _, rfl⟩ (by repeat (first | exact Sub.nil | refine Sub.cons (by first | rfl | exact congrArg (fun z => some (iv z)) (by first | omega | (dsimp only; omega)) | exact congrArg (fun z => some (Value.bool z)) (by first | assumption | exact Eq.symm (by assumption))) ?_)) ?_
  intro k hphi
  obtain ⟨hk, hall⟩ := hphi
  refine St.seq ?_
  refine St.rg ?_
  refine St.ev _ (Ev.lss (Opd.mk rfl) (Opd.mk rfl)) rfl ?_
  refine St.nil ?_
  refine St.then_normal ?_
  refine St.seq ?_
  refine St.cond _ rfl (fun h9 => ?_) (fun h9 => ?_)
  · skip
    try simp only [Bool.and_true, Bool.true_and, decide_eq_true_eq, decide_eq_false_iff_not, Bool.and_eq_true, Bool.or_eq_true, Bool.and_eq_false_iff, Bool.or_eq_false_iff, Bool.not_eq_true', Bool.not_eq_false', beq_iff_eq, beq_eq_false_iff_ne, Int.not_lt, Int.not_le] at h9
    obtain ⟨p, hp⟩ := some_of_lt (show k < rules.length by omega)
    refine St.skip ?_
    refine St.then_normal ?_
    refine St.seq ?_
    refine St.block ?_
    refine St.seq ?_
    refine St.rg ?_
    refine St.ev _ (Ev.move (Opd.mk rfl)) rfl ?_
    refine St.ev _ (Ev.assign (Opd.mk rfl)) rfl ?_
    refine St.nil ?_
    refine St.then_normal ?_
    refine St.seq ?_
    refine St.rg ?_
    refine St.ev _ (Ev.move (Opd.mk rfl)) rfl ?_
    refine St.ev _ (Ev.move (Opd.mk rfl)) rfl ?_
    refine St.ev _ (Ev.move (Opd.mk rfl)) rfl ?_
    refine St.ev _ (Ev.idxaddr  (Opd.mk rfl) (Opd.mk rfl) Try.underlying22 sz34 rfl (by omega)) rfl ?_
    refine St.ev _ (Ev.ldA (Opd.mk rfl) (by first | assumption | exact some_getD default (by omega)) Try.underlying34 trivial sz34 Cel.eq) rfl ?_
    refine St.ev _ (Ev.callc (hcl p (List.mem_of_getElem? hp)) hcb (Opd.mk rfl) (Opds.cons (Opd.mk rfl) Opds.nil)) rfl ?_
    refine St.nil ?_
    refine St.then_normal ?_
    refine St.cond _ rfl (fun h16 => ?_) (fun h16 => ?_)
    · skip
      skip
      refine St.seq ?_
      refine St.rg ?_
      refine St.ev _ (Ev.move (Opd.mk rfl)) rfl ?_
      refine St.ev _ (Ev.assign (Opd.mk rfl)) rfl ?_
      refine St.nil ?_
      refine St.then_normal ?_
      refine St.rett ?_
      refine St.in_ret ?_
      refine St.then_ret ?_
      refine St.then_ret ?_
      refine St.in_ret ?_
      refine St.then_ret ?_
      refine St.rets [_] _ Try.results42 ⟨rfl, trivial⟩ ?_ (fun _ hw => hw)
      exact ie (ix_found hall hp h16).symm
    · skip
      skip
      refine St.skip ?_
      refine St.in_normal ?_
      refine St.then_normal ?_
      refine St.rg ?_
      refine St.ev _ (Ev.add (Opd.mk rfl) (Opd.mk rfl) (by omega)) rfl ?_
      refine St.ev _ (Ev.move (Opd.mk rfl)) rfl ?_
      refine St.nil ?_
      refine St.then_normal ?_
      refine St.againS (k + 1) ⟨by omega, all_take_some hall hp (by simpa using h16)⟩ (by first | omega | (dsimp only; omega)) (by repeat (first | exact Sub.nil | refine Sub.cons (by first | rfl | exact congrArg (fun z => some (iv z)) (by first | omega | (dsimp only; omega)) | exact congrArg (fun z => some (Value.bool z)) (by first | assumption | exact Eq.symm (by assumption))) ?_)) (fun _ hw => hw)
  · skip
    try simp only [Bool.and_true, Bool.true_and, decide_eq_true_eq, decide_eq_false_iff_not, Bool.and_eq_true, Bool.or_eq_true, Bool.and_eq_false_iff, Bool.or_eq_false_iff, Bool.not_eq_true', Bool.not_eq_false', beq_iff_eq, beq_eq_false_iff_ne, Int.not_lt, Int.not_le] at h9
    refine St.exit ?_
    refine St.then_exit ?_
    refine St.then_exit ?_
    refine St.in_hit ?_
    refine St.then_normal ?_
    refine St.seq ?_
    refine St.rg ?_
    refine St.ev _ (Ev.assign (Opd.mk rfl)) rfl ?_
    refine St.nil ?_
    refine St.then_normal ?_
    refine St.rett ?_
    refine St.rets [_] _ Try.results42 ⟨rfl, trivial⟩ ?_ (fun _ hw => hw)
    exact ie (ix_none hall (by omega)).symm

theorem broken1_spec (p : Prec) (hp : kindOk p) (b : Nat) (vr : Value) (row : List Str) :
    FnV Try.prog 43 #[pv p, .pointer (some ⟨b, 0, none⟩)] [cel b vr, sl strR vr row] (.bool (!keeps p row)) := by
  unfold pv
  refine FnV.body2 (args := [.agg #[iv p.kind, sv p.a, sv p.b], .pointer (some ⟨b, 0, none⟩)]) 8 Try.func43 rfl Try.ntmps43 rfl (fun c => ?_)
  refine St.seq ?_
  refine St.rg ?_
  refine St.boxA (Opd.mk rfl) rfl (fun b2 => ?_)
  refine St.ev _ (Ev.assign (Opd.mk rfl)) rfl ?_
  refine St.nil ?_
  refine St.then_normal ?_
  refine St.seq ?_
  refine St.rg ?_
  refine St.ev _ (Ev.ldbA (Opd.mk rfl) Try.underlying34 trivial (by exact sz34)) rfl ?_
  refine St.ev _ (Ev.ldcel (Opd.mk rfl) Try.underlying23 trivial) rfl ?_
  refine St.ev _ (Ev.call (respects_spec p hp vr row) cb44 (Opds.cons (Opd.mk rfl) (Opds.cons (Opd.mk rfl) Opds.nil))) rfl ?_
  refine St.ev _ (Ev.not (Opd.mk rfl)) rfl ?_
  refine St.ev _ (Ev.assign (Opd.mk rfl)) rfl ?_
  refine St.nil ?_
  refine St.then_normal ?_
  refine St.rett ?_
  refine St.rets [_] [] Try.results43 ⟨rfl, trivial⟩ ?_ (fun _ hw => hw.sub)
  rfl

theorem broken_spec (v0 v1 v2 : Value) (rules : List Prec) (ks : List Str) (l : List Int) (hr : ∀ p ∈ rules, kindOk p) (hl : ∀ i ∈ l, 0 ≤ i ∧ i < ks.length) (hll : l.length ≤ 1000000) :
    FnV Try.prog 26 #[v0, v1, v2] [sl precR v0 rules, sl strR v1 ks, sl intR v2 l] (iv (brokenBy rules (rowOf ks l))) := by
  refine FnV.body3 (args := [v0, v1, v2]) 31 Try.func26 rfl Try.ntmps26 rfl (fun c => ?_)
  refine St.seq ?_
  refine St.wf v1 (fun hwf hlen => ?_)
  refine St.rg ?_
  refine St.ev _ (Ev.assign (Opd.mk rfl)) rfl ?_
  refine St.nil ?_
  refine St.then_normal ?_
  refine St.seq ?_
  refine St.rg ?_
  refine St.ev _ (Ev.move (Opd.mk rfl)) rfl ?_
  refine St.ev _ (Ev.lensl (Opd.mk rfl) Try.underlying24) rfl ?_
  refine St.makeSl (m := l.length) (Opd.mk rfl) (Opd.mk rfl) Try.underlying23 sz9 zv9 by9 rfl rfl (by omega) rfl rfl (fun b12 => ?_)
  refine St.alloc zc23 rfl (fun b7 => ?_)
  refine St.store1 (Opd.mk rfl) (Opd.mk rfl) sz23 rfl (by rfl) ?_
  refine St.nil ?_
  refine St.then_normal ?_
  refine St.seq ?_
  refine St.seq ?_
  refine St.rg ?_
  refine St.ev _ (Ev.move (Opd.mk rfl)) rfl ?_
  refine St.ev _ (Ev.lensl (Opd.mk rfl) Try.underlying24) rfl ?_
  refine St.ev _ (Ev.move (Opd.mk rfl)) rfl ?_
  refine St.nil ?_
  refine St.then_normal ?_
  refine St.block ?_
  refine St.rowEq (.slice (some ⟨b12, 0, none⟩) l.length l.length) (show List.replicate l.length (sv []) = rows strR (rowTo ks l 0) by rw [rowTo_zero]; exact (rows_replicate rfl _).symm) ?_
  refine St.loopH (ι := Nat) (fun k T => (15, iv k) :: T) (fun k => [blk b7 (.cells #[(.slice (some ⟨b12, 0, none⟩) l.length l.length)] 23 (0, 0)), row (.slice (some ⟨b12, 0, none⟩) l.length l.length) 9 1 l.length (rows strR (rowTo ks l k)), dat (sl precR v0 rules), dat (sl strR v1 ks), dat (sl intR v2 l)]) (fun k => k ≤ l.length) (fun k => l.length - k) 0 (Keep.cons 0 rfl (Keep.cons 1 rfl (Keep.cons 6 rfl (Keep.cons 7 rfl (Keep.cons 13 rfl (Keep.cons 14 rfl Keep.nil)))))) (Nat.zero_le _) (by repeat (first | exact Sub.nil | refine Sub.cons (by first | rfl | exact congrArg (fun z => some (iv z)) (by first | omega | (dsimp only; omega)) | exact congrArg (fun z => some (Value.bool z)) (by first | assumption | exact Eq.symm (by assumption))) ?_)) (fun _ hw => hw.sub) ?_
  intro k hphi
  refine St.seq ?_
  refine St.rg ?_
  refine St.ev _ (Ev.lss (Opd.mk rfl) (Opd.mk rfl)) rfl ?_
  refine St.nil ?_
  refine St.then_normal ?_
  refine St.seq ?_
  refine St.cond _ rfl (fun h16 => ?_) (fun h16 => ?_)
  · skip
    try simp only [Bool.and_true, Bool.true_and, decide_eq_true_eq, decide_eq_false_iff_not, Bool.and_eq_true, Bool.or_eq_true, Bool.and_eq_false_iff, Bool.or_eq_false_iff, Bool.not_eq_true', Bool.not_eq_false', beq_iff_eq, beq_eq_false_iff_ne, Int.not_lt, Int.not_le] at h16
    have hlk := hl (l.getD k 0) (List.mem_of_getElem? (some_getD 0 (by omega)))
    refine St.skip ?_
    refine St.then_normal ?_
    refine St.seq ?_
    refine St.block ?_
    refine St.seq ?_
    refine St.rg ?_
    refine St.ev _ (Ev.move (Opd.mk rfl)) rfl ?_
    refine St.ev _ (Ev.idxaddr  (Opd.mk rfl) (Opd.mk rfl) Try.underlying24 sz3 rfl (by omega)) rfl ?_
    refine St.ev _ (Ev.ld1 (Opd.mk rfl) (by first | assumption | exact some_getD 0 (by omega)) Try.underlying3 trivial rfl) rfl ?_
    refine St.ev _ (Ev.assign (Opd.mk rfl)) rfl ?_
    refine St.ev _ (Ev.assign (Opd.mk rfl)) rfl ?_
    refine St.nil ?_
    refine St.then_normal ?_
    refine St.rqs 7 mixed (by kernel_rfl) (by kernel_rfl) (Mm.drawn _ _) ?_
    refine Sq.ev _ (Ev.ldb (Opd.mk rfl) Try.underlying23 trivial (by rfl)) rfl ?_
    refine Sq.ev _ (Ev.move (Opd.mk rfl)) rfl ?_
    refine Sq.ev _ (Ev.move (Opd.mk rfl)) rfl ?_
    refine Sq.ev _ (Ev.move (Opd.mk rfl)) rfl ?_
    refine Sq.ev _ (Ev.idxaddr (k := (l.getD k 0).toNat) (Opd.mk rfl) (Opd.mk rfl) Try.underlying23 sz9 (by omega) (by omega)) rfl ?_
    refine Sq.ev _ (Ev.ld1 (Opd.mk rfl) (by first | assumption | exact some_getD [] (by omega)) Try.underlying9 trivial rfl) rfl ?_
    refine Sq.ev _ (Ev.idxaddrrow  (Opd.mk rfl) (Opd.mk rfl) Try.underlying23 sz9 rfl (by omega)) rfl ?_
    refine Sq.tail ?_
    refine St.storerow (Opd.mk rfl) (Opd.mk rfl) sz9 rfl (by omega) (by decide) ?_
    refine St.nil ?_
    refine St.in_normal ?_
    refine St.then_normal ?_
    refine St.rg ?_
    refine St.ev _ (Ev.add (Opd.mk rfl) (Opd.mk rfl) (by omega)) rfl ?_
    refine St.ev _ (Ev.move (Opd.mk rfl)) rfl ?_
    refine St.nil ?_
    refine St.then_normal ?_
    refine St.rowEq (.slice (some ⟨b12, 0, none⟩) l.length l.length) (show _ = rows strR (rowTo ks l (k + 1)) by rw [Nat.mul_one, Nat.add_zero, rows_set1 (Rr := strR) rfl (x := ks.getD (l.getD k 0).toNat []) rfl, rowTo_succ ks l (by omega)]) ?_
    refine St.againH (k + 1) (by omega) (by first | omega | (dsimp only; omega)) (by repeat (first | exact Sub.nil | refine Sub.cons (by first | rfl | exact congrArg (fun z => some (iv z)) (by first | omega | (dsimp only; omega)) | exact congrArg (fun z => some (Value.bool z)) (by first | assumption | exact Eq.symm (by assumption))) ?_)) (fun _ hw => hw.sub)
  · skip
    try simp only [Bool.and_true, Bool.true_and, decide_eq_true_eq, decide_eq_false_iff_not, Bool.and_eq_true, Bool.or_eq_true, Bool.and_eq_false_iff, Bool.or_eq_false_iff, Bool.not_eq_true', Bool.not_eq_false', beq_iff_eq, beq_eq_false_iff_ne, Int.not_lt, Int.not_le] at h16
    refine St.exit ?_
    refine St.then_exit ?_
    refine St.then_exit ?_
    refine St.in_hit ?_
    refine St.then_normal ?_
    refine St.seq ?_
    refine St.rowEq (.slice (some ⟨b12, 0, none⟩) l.length l.length) (show _ = rows strR (rowOf ks l) by rw [rowTo_all ks l (by omega)]) ?_
    refine St.rg ?_
    refine St.ev _ (Ev.move (Opd.mk rfl)) rfl ?_
    refine St.ev _ (Ev.func (Opds.cons (Opd.mk rfl) Opds.nil)) rfl ?_
    refine St.ev _ (Ev.callL (IndexFunc_spec v0 rules 43 cb43 [.pointer (some ⟨b7, 0, none⟩)] [cel b7 (.slice (some ⟨b12, 0, none⟩) l.length l.length), sl strR (.slice (some ⟨b12, 0, none⟩) l.length l.length) (rowOf ks l)] (fun p => !keeps p (rowOf ks l)) (fun p hp => broken1_spec p (hr p hp) b7 _ _)) cb42 (Opds.cons (Opd.mk rfl) (Opds.cons (Opd.mk rfl) Opds.nil)) (Lent.dat (Lent.blk (Lent.row Lent.nil rfl rfl (rowOf_length ks l).symm (rowOf_wf hwf l))))) rfl ?_
    refine St.ev _ (Ev.assign (Opd.mk rfl)) rfl ?_
    refine St.nil ?_
    refine St.then_normal ?_
    refine St.rett ?_
    refine St.rets [_] [] Try.results26 ⟨rfl, trivial⟩ ?_ (fun _ hw => hw.sub)
    rfl

theorem OrderBroken_spec (v0 v1 v2 : Value) (rules : List Prec) (ks : List Str) (l : List Int) (hl : ∀ i ∈ l, 0 ≤ i ∧ i < ks.length) (hll : l.length ≤ 1000000) :
    FnV Try.prog 12 #[v0, v1, v2] [sl precR v0 rules, sl strR v1 ks, sl intR v2 l] (iv (brokenBy rules (rowOf ks l))) := by
  refine FnV.body3 (args := [v0, v1, v2]) 41 Try.func12 rfl Try.ntmps12 rfl (fun c => ?_)
  refine St.seq ?_
  refine St.wf v0 (fun hwf0 hlen0 => ?_)
  refine St.wf v1 (fun hwf hlen => ?_)
  refine St.rg ?_
  refine St.ev _ (Ev.assign (Opd.mk rfl)) rfl ?_
  refine St.nil ?_
  refine St.then_normal ?_
  refine St.seq ?_
  refine St.rg ?_
  refine St.buildSl (xs := []) (ps := []) rfl (Opds.nil) Try.underlying23 sz9 zv9 rfl rfl (by simp [Value.cells]) rfl rfl (fun b10 => ?_)
  refine St.ev _ (Ev.assign (Opd.mk rfl)) rfl ?_
  refine St.nil ?_
  refine St.then_normal ?_
  refine St.seq ?_
  refine St.seq ?_
  refine St.rg ?_
  refine St.ev _ (Ev.assign (Opd.mk rfl)) rfl ?_
  refine St.nil ?_
  refine St.then_normal ?_
  refine St.block ?_
  refine St.rowEq (.slice (some ⟨b10, 0, none⟩) 0 0) (show _ = rows strR (rowOf ks (l.take 0)) from rfl) ?_
  refine St.loopH2 (ι := Nat) (κ := Value) (fun k v T => (8, iv k) :: (7, v) :: T) (fun k v => [row v 9 1 k (rows strR (rowOf ks (l.take k))), dat (sl precR v0 rules), dat (sl strR v1 ks), dat (sl intR v2 l)]) (fun k v => k ≤ l.length) (fun k v => l.length - k) 0 (.slice (some ⟨b10, 0, none⟩) 0 0) (Keep.cons 0 rfl (Keep.cons 1 rfl (Keep.cons 2 rfl (Keep.cons 6 rfl Keep.nil)))) (Nat.zero_le _) (by repeat (first | exact Sub.nil | refine Sub.cons (by first | rfl | exact congrArg (fun z => some (iv z)) (by first | omega | (dsimp only; omega)) | exact congrArg (fun z => some (Value.bool z)) (by first | assumption | exact Eq.symm (by assumption))) ?_)) (fun _ hw => hw.sub) ?_
  intro k v hphi
  refine St.seq ?_
  refine St.seq ?_
  refine St.rg ?_
  refine St.ev _ (Ev.move (Opd.mk rfl)) rfl ?_
  refine St.ev _ (Ev.move (Opd.mk rfl)) rfl ?_
  refine St.ev _ (Ev.lensl (Opd.mk rfl) Try.underlying24) rfl ?_
  refine St.ev _ (Ev.lss (Opd.mk rfl) (Opd.mk rfl)) rfl ?_
  refine St.nil ?_
  refine St.then_normal ?_
  refine St.cond _ rfl (fun h14 => ?_) (fun h14 => ?_)
  · skip
    try simp only [Bool.and_true, Bool.true_and, decide_eq_true_eq, decide_eq_false_iff_not, Bool.and_eq_true, Bool.or_eq_true, Bool.and_eq_false_iff, Bool.or_eq_false_iff, Bool.not_eq_true', Bool.not_eq_false', beq_iff_eq, beq_eq_false_iff_ne, Int.not_lt, Int.not_le] at h14
    have hlk := hl (l.getD k 0) (List.mem_of_getElem? (some_getD 0 (by omega)))
    refine St.skip ?_
    refine St.then_normal ?_
    refine St.seq ?_
    refine St.block ?_
    refine St.rg ?_
    refine St.ev _ (Ev.move (Opd.mk rfl)) rfl ?_
    refine St.ev _ (Ev.move (Opd.mk rfl)) rfl ?_
    refine St.ev _ (Ev.move (Opd.mk rfl)) rfl ?_
    refine St.ev _ (Ev.move (Opd.mk rfl)) rfl ?_
    refine St.ev _ (Ev.idxaddr  (Opd.mk rfl) (Opd.mk rfl) Try.underlying24 sz3 rfl (by omega)) rfl ?_
    refine St.ev _ (Ev.ld1 (Opd.mk rfl) (by first | assumption | exact some_getD 0 (by omega)) Try.underlying3 trivial rfl) rfl ?_
    refine St.ev _ (Ev.idxaddr (k := (l.getD k 0).toNat) (Opd.mk rfl) (Opd.mk rfl) Try.underlying23 sz9 (by omega) (by omega)) rfl ?_
    refine St.ev _ (Ev.ld1 (Opd.mk rfl) (by first | assumption | exact some_getD [] (by omega)) Try.underlying9 trivial rfl) rfl ?_
    refine St.buildSl (xs := [(Operand.tmp 24)]) (ps := [(0, (Operand.tmp 24))]) rfl (Opds.cons (Opd.mk rfl) Opds.nil) Try.underlying23 sz9 zv9 rfl rfl (by simp [Value.cells]) rfl rfl (fun b25 => ?_)
    refine St.appendRow (Opd.mk rfl) (Opd.mk rfl) Try.underlying23 sz9 zv9 by9 (by simp [Value.oneCell', Value.cells]) (by omega) (by omega) rfl rfl rfl rfl (fun v26 hv26 => ?_)
    refine St.ev _ (Ev.assign (Opd.mk rfl)) rfl ?_
    refine St.nil ?_
    refine St.in_normal ?_
    refine St.then_normal ?_
    refine St.rg ?_
    refine St.ev _ (Ev.move (Opd.mk rfl)) rfl ?_
    refine St.ev _ (Ev.add (Opd.mk rfl) (Opd.mk rfl) (by omega)) rfl ?_
    refine St.ev _ (Ev.assign (Opd.mk rfl)) rfl ?_
    refine St.nil ?_
    refine St.then_normal ?_
    refine St.rowEqN v26 (show _ = k + 1 by omega) (show _ = rows strR (rowOf ks (l.take (k + 1))) by rw [rowOf_snoc ks (some_getD 0 (show k < l.length by omega)), rows_snoc]; rfl) ?_
    refine St.againH2 (k + 1) v26 (by omega) (by first | omega | (dsimp only; omega)) (by repeat (first | exact Sub.nil | refine Sub.cons (by first | rfl | exact congrArg (fun z => some (iv z)) (by first | omega | (dsimp only; omega)) | exact congrArg (fun z => some (Value.bool z)) (by first | assumption | exact Eq.symm (by assumption))) ?_)) (fun _ hw => hw.sub)
  · skip
    try simp only [Bool.and_true, Bool.true_and, decide_eq_true_eq, decide_eq_false_iff_not, Bool.and_eq_true, Bool.or_eq_true, Bool.and_eq_false_iff, Bool.or_eq_false_iff, Bool.not_eq_true', Bool.not_eq_false', beq_iff_eq, beq_eq_false_iff_ne, Int.not_lt, Int.not_le] at h14
    refine St.exit ?_
    refine St.then_exit ?_
    refine St.then_exit ?_
    refine St.in_hit ?_
    refine St.then_normal ?_
    refine St.seq ?_
    refine St.seq ?_
    have e0 : l.take k = l := List.take_of_length_le (by omega)
    have e1 : k = l.length := by omega
    subst e1
    rw [e0]
    refine St.rg ?_
    refine St.ev _ (Ev.assign (Opd.mk rfl)) rfl ?_
    refine St.nil ?_
    refine St.then_normal ?_
    refine St.block ?_
    refine St.loopS (ι := Nat) (fun j T => (9, iv j) :: T) (fun j => j ≤ rules.length ∧ (rules.take j).all (fun y => !(!keeps y (rowOf ks l))) = true) (fun j => rules.length - j) 0 (Keep.cons 0 rfl (Keep.cons 7 rfl Keep.nil)) ⟨Nat.zero_le _, rfl⟩ (by repeat (first | exact Sub.nil | refine Sub.cons (by first | rfl | exact congrArg (fun z => some (iv z)) (by first | omega | (dsimp only; omega)) | exact congrArg (fun z => some (Value.bool z)) (by first | assumption | exact Eq.symm (by assumption))) ?_)) ?_
    intro j hphi
    obtain ⟨hj, hall⟩ := hphi
    refine St.seq ?_
    refine St.seq ?_
    refine St.rg ?_
    refine St.ev _ (Ev.move (Opd.mk rfl)) rfl ?_
    refine St.ev _ (Ev.move (Opd.mk rfl)) rfl ?_
    refine St.ev _ (Ev.lensl (Opd.mk rfl) Try.underlying22) rfl ?_
    refine St.ev _ (Ev.lss (Opd.mk rfl) (Opd.mk rfl)) rfl ?_
    refine St.nil ?_
    refine St.then_normal ?_
    refine St.cond _ rfl (fun h30 => ?_) (fun h30 => ?_)
    · skip
      try simp only [Bool.and_true, Bool.true_and, decide_eq_true_eq, decide_eq_false_iff_not, Bool.and_eq_true, Bool.or_eq_true, Bool.and_eq_false_iff, Bool.or_eq_false_iff, Bool.not_eq_true', Bool.not_eq_false', beq_iff_eq, beq_eq_false_iff_ne, Int.not_lt, Int.not_le] at h30
      obtain ⟨p, hp⟩ := some_of_lt (show j < rules.length by omega)
      refine St.skip ?_
      refine St.then_normal ?_
      refine St.seq ?_
      refine St.block ?_
      refine St.seq ?_
      refine St.rg ?_
      refine St.ev _ (Ev.move (Opd.mk rfl)) rfl ?_
      refine St.ev _ (Ev.move (Opd.mk rfl)) rfl ?_
      refine St.ev _ (Ev.idxaddr  (Opd.mk rfl) (Opd.mk rfl) Try.underlying22 sz34 rfl (by omega)) rfl ?_
      refine St.ev _ (Ev.ldA (Opd.mk rfl) (by first | assumption | exact some_getD default (by omega)) Try.underlying34 trivial sz34 Cel.eq) rfl ?_
      refine St.ev _ (Ev.move (Opd.mk rfl)) rfl ?_
      refine St.ev _ (Ev.callL (OrderKeeps_spec p v (rowOf ks l)) cb28 (Opds.cons (Opd.mk rfl) (Opds.cons (Opd.mk rfl) Opds.nil)) (Lent.row Lent.nil rfl rfl (rowOf_length ks l).symm (rowOf_wf hwf l))) rfl ?_
      refine St.ev _ (Ev.not (Opd.mk rfl)) rfl ?_
      refine St.nil ?_
      refine St.then_normal ?_
      refine St.cond _ rfl (fun h39 => ?_) (fun h39 => ?_)
      · skip
        skip
        refine St.seq ?_
        refine St.rg ?_
        refine St.ev _ (Ev.move (Opd.mk rfl)) rfl ?_
        refine St.ev _ (Ev.assign (Opd.mk rfl)) rfl ?_
        refine St.nil ?_
        refine St.then_normal ?_
        refine St.rett ?_
        refine St.in_ret ?_
        refine St.then_ret ?_
        refine St.then_ret ?_
        refine St.in_ret ?_
        refine St.then_ret ?_
        refine St.rets [_] [] Try.results12 ⟨rfl, trivial⟩ ?_ (fun _ hw => hw.sub)
        exact ie (ix_found (p := fun p => !keeps p (rowOf ks l)) hall hp h39).symm
      · skip
        skip
        refine St.skip ?_
        refine St.in_normal ?_
        refine St.then_normal ?_
        refine St.rg ?_
        refine St.ev _ (Ev.move (Opd.mk rfl)) rfl ?_
        refine St.ev _ (Ev.add (Opd.mk rfl) (Opd.mk rfl) (by omega)) rfl ?_
        refine St.ev _ (Ev.assign (Opd.mk rfl)) rfl ?_
        refine St.nil ?_
        refine St.then_normal ?_
        refine St.againS (j + 1) ⟨by omega, all_take_some hall hp (by simpa using h39)⟩ (by first | omega | (dsimp only; omega)) (by repeat (first | exact Sub.nil | refine Sub.cons (by first | rfl | exact congrArg (fun z => some (iv z)) (by first | omega | (dsimp only; omega)) | exact congrArg (fun z => some (Value.bool z)) (by first | assumption | exact Eq.symm (by assumption))) ?_)) (fun _ hw => hw.sub)
    · skip
      try simp only [Bool.and_true, Bool.true_and, decide_eq_true_eq, decide_eq_false_iff_not, Bool.and_eq_true, Bool.or_eq_true, Bool.and_eq_false_iff, Bool.or_eq_false_iff, Bool.not_eq_true', Bool.not_eq_false', beq_iff_eq, beq_eq_false_iff_ne, Int.not_lt, Int.not_le] at h30
      refine St.exit ?_
      refine St.then_exit ?_
      refine St.then_exit ?_
      refine St.in_hit ?_
      refine St.then_normal ?_
      refine St.seq ?_
      refine St.rg ?_
      refine St.ev _ (Ev.assign (Opd.mk rfl)) rfl ?_
      refine St.nil ?_
      refine St.then_normal ?_
      refine St.rett ?_
      refine St.rets [_] [] Try.results12 ⟨rfl, trivial⟩ ?_ (fun _ hw => hw.sub)
      exact ie (ix_none (p := fun p => !keeps p (rowOf ks l)) hall (by omega)).symm

theorem CloneI_spec (v0 : Value) (l : List Int) (hl : l.length ≤ 1000000) :
    FnH Try.prog 31 #[v0] ([sl intR v0 l].map dat) (fun v H' => H' = [row v 3 1 l.length (rows intR l)]) := by
  refine FnH.bodyd1 (args := [v0]) 8 Try.func31 rfl Try.ntmps31 rfl (fun c => ?_)
  refine St.seq ?_
  refine St.shape v0 (fun ad cap hv hnil => ?_)
  subst hv
  refine St.rg ?_
  refine St.ev _ (Ev.assign (Opd.mk rfl)) rfl ?_
  refine St.nil ?_
  refine St.then_normal ?_
  refine St.seq ?_
  refine St.seq ?_
  refine St.rg ?_
  refine St.ev _ (Ev.move (Opd.mk rfl)) rfl ?_
  refine St.ev _ (Ev.slnil (Opd.mk rfl) Try.underlying24) rfl ?_
  refine St.nil ?_
  refine St.then_normal ?_
  refine St.cond _ rfl (fun h4 => ?_) (fun h4 => ?_)
  · skip
    try simp only [Bool.and_true, Bool.true_and, decide_eq_true_eq, decide_eq_false_iff_not, Bool.and_eq_true, Bool.or_eq_true, Bool.and_eq_false_iff, Bool.or_eq_false_iff, Bool.not_eq_true', Bool.not_eq_false', beq_iff_eq, beq_eq_false_iff_ne, Int.not_lt, Int.not_le] at h4
    refine St.seq ?_
    refine St.rg ?_
    refine St.ev _ (Ev.assign (Opd.mk rfl)) rfl ?_
    refine St.nil ?_
    refine St.then_normal ?_
    refine St.rett ?_
    refine St.then_ret ?_
    have e0 : l = [] := hnil (by cases ad <;> simp [isNil] at h4; rfl)
    subst e0
    refine St.nilrow 3 1 ?_
    refine St.rets [_] [row (.slice none 0 0) 3 1 0 []] Try.results31 ⟨rfl, trivial⟩ ?_ (fun _ hw => hw.sub)
    exact rfl
  · skip
    try simp only [Bool.and_true, Bool.true_and, decide_eq_true_eq, decide_eq_false_iff_not, Bool.and_eq_true, Bool.or_eq_true, Bool.and_eq_false_iff, Bool.or_eq_false_iff, Bool.not_eq_true', Bool.not_eq_false', beq_iff_eq, beq_eq_false_iff_ne, Int.not_lt, Int.not_le] at h4
    refine St.skip ?_
    refine St.then_normal ?_
    refine St.seq ?_
    refine St.rg ?_
    refine St.buildSl (xs := []) (ps := []) rfl (Opds.nil) Try.underlying24 sz3 zv3 rfl rfl (by simp [Value.cells]) rfl rfl (fun b5 => ?_)
    refine St.ev _ (Ev.move (Opd.mk rfl)) rfl ?_
    refine St.appendSl (Opd.mk rfl) (Opd.mk rfl) Try.underlying24 sz3 zv3 by3 (rows_one _ _) (by omega) (by omega) rfl rfl trivial rfl (fun v7 hv7 => ?_)
    refine St.ev _ (Ev.assign (Opd.mk rfl)) rfl ?_
    refine St.nil ?_
    refine St.then_normal ?_
    refine St.rett ?_
    refine St.rowEqN v7 (show _ = l.length by simp) (show _ = rows intR l by rfl) ?_
    refine St.rets [_] [row v7 3 intR.size l.length (rows intR l)] Try.results31 ⟨rfl, trivial⟩ ?_ (fun _ hw => hw.sub)
    exact rfl

theorem dead_spec (v0 v1 v2 : Value) (rules : List Prec) (ks : List Str) (l : List Int) (hl : ∀ i ∈ l, 0 ≤ i ∧ i < ks.length) (hne : 1 ≤ l.length) :
    FnV Try.prog 46 #[v0, v1, v2] [sl precR v0 rules, sl strR v1 ks, sl intR v2 l] (.bool (deadB rules ks l)) := by
  refine FnV.body3 (args := [v0, v1, v2]) 79 Try.func46 rfl Try.ntmps46 rfl (fun c => ?_)
  refine St.seq ?_
  refine St.wf v0 (fun hwf0 hlen0 => ?_)
  refine St.wf v1 (fun hwf hlen => ?_)
  refine St.wf v2 (fun hwf2 hlen2 => ?_)
  have hlast := hl (l.getD (l.length - 1) 0) (List.mem_of_getElem? (some_getD 0 (by omega)))
  have hdl : (l.drop 0).take (l.length - 1 - 0) = l.dropLast := by rw [List.drop_zero, Nat.sub_zero, List.dropLast_eq_take]
  have hdn : l.dropLast.length = l.length - 1 := by simp
  refine St.part v2 0 (l.length - 1) (Nat.zero_le _) (by omega) ?_
  rw [hdl]
  refine St.rg ?_
  refine St.ev _ (Ev.assign (Opd.mk rfl)) rfl ?_
  refine St.nil ?_
  refine St.then_normal ?_
  refine St.seq ?_
  refine St.rg ?_
  refine St.ev _ (Ev.move (Opd.mk rfl)) rfl ?_
  refine St.ev _ (Ev.move (Opd.mk rfl)) rfl ?_
  refine St.ev _ (Ev.move (Opd.mk rfl)) rfl ?_
  refine St.ev _ (Ev.lensl (Opd.mk rfl) Try.underlying24) rfl ?_
  refine St.ev _ (Ev.sub (Opd.mk rfl) (Opd.mk rfl) (by omega)) rfl ?_
  refine St.ev _ (Ev.idxaddr (k := (l.length - 1)) (Opd.mk rfl) (Opd.mk rfl) Try.underlying24 sz3 (by omega) (by omega)) rfl ?_
  refine St.ev _ (Ev.ld1 (Opd.mk rfl) (by first | assumption | exact some_getD 0 (by omega)) Try.underlying3 trivial rfl) rfl ?_
  refine St.ev _ (Ev.idxaddr (k := (l.getD (l.length - 1) 0).toNat) (Opd.mk rfl) (Opd.mk rfl) Try.underlying23 sz9 (by omega) (by omega)) rfl ?_
  refine St.ev _ (Ev.ld1 (Opd.mk rfl) (by first | assumption | exact some_getD [] (by omega)) Try.underlying9 trivial rfl) rfl ?_
  refine St.ev _ (Ev.assign (Opd.mk rfl)) rfl ?_
  refine St.nil ?_
  refine St.then_normal ?_
  refine St.seq ?_
  refine St.seq ?_
  refine St.rg ?_
  refine St.ev _ (Ev.move (Opd.mk rfl)) rfl ?_
  refine St.ev _ (Ev.lensl (Opd.mk rfl) Try.underlying22) rfl ?_
  refine St.ev _ (Ev.move (Opd.mk rfl)) rfl ?_
  refine St.nil ?_
  refine St.then_normal ?_
  refine St.block ?_
  refine St.loopS (ι := Nat) (fun k T => (24, iv k) :: T) (fun k => k ≤ rules.length ∧ (rules.take k).all (fun p => !(l.dropLast.any (deadAt ks (ks.getD (l.getD (l.length - 1) 0).toNat []) p))) = true) (fun k => rules.length - k) 0 (Keep.cons 1 rfl (Keep.cons 2 rfl (Keep.cons 7 rfl (Keep.cons 22 rfl (Keep.cons 23 rfl Keep.nil))))) ⟨Nat.zero_le _, rfl⟩ (by repeat (first | exact Sub.nil | refine Sub.cons (by first | rfl | exact congrArg (fun z => some (iv z)) (by first | omega | (dsimp only; omega)) | exact congrArg (fun z => some (Value.bool z)) (by first | assumption | exact Eq.symm (by assumption))) ?_)) ?_
  intro k hphi
  obtain ⟨hk, hall⟩ := hphi
  refine St.seq ?_
  refine St.rg ?_
  refine St.ev _ (Ev.lss (Opd.mk rfl) (Opd.mk rfl)) rfl ?_
  refine St.nil ?_
  refine St.then_normal ?_
  refine St.seq ?_
  refine St.cond _ rfl (fun h25 => ?_) (fun h25 => ?_)
  · skip
    try simp only [Bool.and_true, Bool.true_and, decide_eq_true_eq, decide_eq_false_iff_not, Bool.and_eq_true, Bool.or_eq_true, Bool.and_eq_false_iff, Bool.or_eq_false_iff, Bool.not_eq_true', Bool.not_eq_false', beq_iff_eq, beq_eq_false_iff_ne, Int.not_lt, Int.not_le] at h25
    obtain ⟨p, hp⟩ := some_of_lt (show k < rules.length by omega)
    refine St.skip ?_
    refine St.then_normal ?_
    refine St.seq ?_
    refine St.block ?_
    refine St.seq ?_
    refine St.rg ?_
    refine St.ev _ (Ev.idxaddr  (Opd.mk rfl) (Opd.mk rfl) Try.underlying22 sz34 rfl (by omega)) rfl ?_
    refine St.ev _ (Ev.ldA (Opd.mk rfl) (by first | assumption | exact some_getD default (by omega)) Try.underlying34 trivial sz34 Cel.eq) rfl ?_
    refine St.alloc zc34 rfl (fun b9 => ?_)
    refine St.storeA (Opd.mk rfl) (Opd.mk rfl) sz34 (by first | simp only [List.length_cons, List.length_nil] | rfl) rfl ?_
    refine St.nil ?_
    refine St.then_normal ?_
    refine St.seq ?_
    refine St.rg ?_
    refine St.ev _ (Ev.assign (Opd.mk rfl)) rfl ?_
    refine St.nil ?_
    refine St.then_normal ?_
    refine St.seq ?_
    refine St.seq ?_
    refine St.rg ?_
    refine St.ev _ (Ev.move (Opd.mk rfl)) rfl ?_
    refine St.ev _ (Ev.move (Opd.mk rfl)) rfl ?_
    refine St.ev _ (Ev.lensl (Opd.mk rfl) Try.underlying24) rfl ?_
    refine St.ev _ (Ev.sub (Opd.mk rfl) (Opd.mk rfl) (by omega)) rfl ?_
    refine St.ev _ (Ev.slicesl_h (h := (l.length - 1)) (Opd.mk rfl) (Opd.mk rfl) Try.underlying24 sz3 (by omega) (by omega)) rfl ?_
    refine St.ev _ (Ev.lensl (Opd.mk rfl) Try.underlying24) rfl ?_
    refine St.ev _ (Ev.move (Opd.mk rfl)) rfl ?_
    refine St.nil ?_
    refine St.then_normal ?_
    refine St.block ?_
    refine St.loopS (ι := Nat) (fun j T => (34, iv j) :: (10, .bool ((l.dropLast.take j).any (deadAt ks (ks.getD (l.getD (l.length - 1) 0).toNat []) p))) :: T) (fun j => j ≤ l.dropLast.length) (fun j => l.dropLast.length - j) 0 (Keep.cons 1 rfl (Keep.cons 2 rfl (Keep.cons 7 rfl (Keep.cons 9 rfl (Keep.cons 22 rfl (Keep.cons 23 rfl (Keep.cons 24 rfl (Keep.cons 32 rfl (Keep.cons 33 rfl Keep.nil))))))))) (Nat.zero_le _) (by repeat (first | exact Sub.nil | refine Sub.cons (by first | rfl | exact congrArg (fun z => some (iv z)) (by first | omega | (dsimp only; omega)) | exact congrArg (fun z => some (Value.bool z)) (by first | assumption | exact Eq.symm (by assumption))) ?_)) ?_
    intro j hphi
    have hj := hphi
    refine St.seq ?_
    refine St.rg ?_
    refine St.ev _ (Ev.lss (Opd.mk rfl) (Opd.mk rfl)) rfl ?_
    refine St.nil ?_
    refine St.then_normal ?_
    refine St.seq ?_
    refine St.cond _ rfl (fun h35 => ?_) (fun h35 => ?_)
    · skip
      try simp only [Bool.and_true, Bool.true_and, decide_eq_true_eq, decide_eq_false_iff_not, Bool.and_eq_true, Bool.or_eq_true, Bool.and_eq_false_iff, Bool.or_eq_false_iff, Bool.not_eq_true', Bool.not_eq_false', beq_iff_eq, beq_eq_false_iff_ne, Int.not_lt, Int.not_le] at h35
      obtain ⟨x, hx⟩ := some_of_lt (show j < l.dropLast.length by omega)
      have hlx := hl x (List.dropLast_subset _ (List.mem_of_getElem? hx))
      refine St.skip ?_
      refine St.then_normal ?_
      refine St.seq ?_
      refine St.block ?_
      refine St.seq ?_
      refine St.rg ?_
      refine St.ev _ (Ev.idxaddr  (Opd.mk rfl) (Opd.mk rfl) Try.underlying24 sz3 rfl (by omega)) rfl ?_
      refine St.ev _ (Ev.ld1 (Opd.mk rfl) (by first | assumption | exact some_getD 0 (by omega)) Try.underlying3 trivial rfl) rfl ?_
      refine St.ev _ (Ev.assign (Opd.mk rfl)) rfl ?_
      refine St.nil ?_
      refine St.then_normal ?_
      refine St.seq ?_
      refine St.rq mixed (by kernel_rfl) (Mm.drawn _ _) ?_
      refine Sq.ev _ (Ev.fldb0 (Opd.mk rfl) fo34_0) rfl ?_
      refine Sq.ev _ (Ev.ldb (Opd.mk rfl) Try.underlying3 trivial (by rfl)) rfl ?_
      refine Sq.ev _ (Ev.eql (Opd.mk rfl) (Opd.mk rfl)) rfl ?_
      refine Sq.ev _ (Ev.move (Opd.mk rfl)) rfl ?_
      refine Sq.gt _ rfl rfl (fun hg => Ev.move (Opd.mk rfl)) rfl ?_
      refine Sq.gt _ rfl rfl (fun hg => Ev.move (Opd.mk rfl)) rfl ?_
      refine Sq.gt _ rfl rfl (fun hg => Ev.idxaddr (k := x.toNat) (Opd.gv rfl hg) (Opd.gv rfl hg) Try.underlying23 sz9 (by first | omega | (simp only [Bool.and_true, Bool.true_and, decide_eq_true_eq, decide_eq_false_iff_not, Bool.and_eq_true, Bool.or_eq_true, Bool.and_eq_false_iff, Bool.or_eq_false_iff, Bool.not_eq_true', Bool.not_eq_false', beq_iff_eq, beq_eq_false_iff_ne, Int.not_lt, Int.not_le] at hg; omega)) (by first | omega | (simp only [Bool.and_true, Bool.true_and, decide_eq_true_eq, decide_eq_false_iff_not, Bool.and_eq_true, Bool.or_eq_true, Bool.and_eq_false_iff, Bool.or_eq_false_iff, Bool.not_eq_true', Bool.not_eq_false', beq_iff_eq, beq_eq_false_iff_ne, Int.not_lt, Int.not_le] at hg; omega))) rfl ?_
      refine Sq.gt _ rfl rfl (fun hg => Ev.ld1 (Opd.gv rfl hg) (some_getD [] (by first | omega | (simp only [Bool.and_true, Bool.true_and, decide_eq_true_eq, decide_eq_false_iff_not, Bool.and_eq_true, Bool.or_eq_true, Bool.and_eq_false_iff, Bool.or_eq_false_iff, Bool.not_eq_true', Bool.not_eq_false', beq_iff_eq, beq_eq_false_iff_ne, Int.not_lt, Int.not_le] at hg; omega))) Try.underlying9 trivial rfl) rfl ?_
      refine Sq.gt _ rfl rfl (fun hg => Ev.fldb0 (Opd.mk rfl) fo34_2) rfl ?_
      refine Sq.gt _ rfl rfl (fun hg => Ev.ldb (Opd.gv rfl hg) Try.underlying9 trivial (by rfl)) rfl ?_
      refine Sq.gt _ rfl rfl (fun hg => Ev.streq (Opd.gv rfl hg) (Opd.gv rfl hg)) rfl ?_
      refine Sq.ev _ (Ev.and (Opd.mk rfl) (fun hp => Opd.gv rfl hp)) rfl ?_
      refine Sq.ev _ (Ev.move (Opd.mk rfl)) rfl ?_
      refine Sq.gt _ rfl rfl (fun hg => Ev.move (Opd.mk rfl)) rfl ?_
      refine Sq.gt _ rfl rfl (fun hg => Ev.fldb0 (Opd.mk rfl) fo34_1) rfl ?_
      refine Sq.gt _ rfl rfl (fun hg => Ev.ldb (Opd.gv rfl hg) Try.underlying9 trivial (by rfl)) rfl ?_
      refine Sq.gt _ rfl rfl (fun hg => Ev.streq (Opd.gv rfl hg) (Opd.gv rfl hg)) rfl ?_
      refine Sq.ev _ (Ev.and (Opd.mk rfl) (fun hp => Opd.gv rfl hp)) rfl ?_
      refine Sq.ev _ (Ev.move (Opd.mk rfl)) rfl ?_
      refine Sq.gf _ rfl rfl (fun hg => Ev.fldb0 (Opd.mk rfl) fo34_0) rfl ?_
      refine Sq.gf _ rfl rfl (fun hg => Ev.ldb (Opd.gv rfl hg) Try.underlying3 trivial (by rfl)) rfl ?_
      refine Sq.gf _ rfl rfl (fun hg => Ev.eql (Opd.gv rfl hg) (Opd.mk rfl)) rfl ?_
      refine Sq.gf _ rfl rfl (fun hg => Ev.move (Opd.gv rfl hg)) rfl ?_
      refine Sq.gct _ rfl rfl (fun hg => Ev.move (Opd.mk rfl)) rfl ?_
      refine Sq.gct _ rfl rfl (fun hg => Ev.move (Opd.mk rfl)) rfl ?_
      refine Sq.gct _ rfl rfl (fun hg => Ev.idxaddr (k := x.toNat) (Opd.gv rfl hg) (Opd.gv rfl hg) Try.underlying23 sz9 (by first | omega | (simp only [Bool.and_true, Bool.true_and, decide_eq_true_eq, decide_eq_false_iff_not, Bool.and_eq_true, Bool.or_eq_true, Bool.and_eq_false_iff, Bool.or_eq_false_iff, Bool.not_eq_true', Bool.not_eq_false', beq_iff_eq, beq_eq_false_iff_ne, Int.not_lt, Int.not_le] at hg; omega)) (by first | omega | (simp only [Bool.and_true, Bool.true_and, decide_eq_true_eq, decide_eq_false_iff_not, Bool.and_eq_true, Bool.or_eq_true, Bool.and_eq_false_iff, Bool.or_eq_false_iff, Bool.not_eq_true', Bool.not_eq_false', beq_iff_eq, beq_eq_false_iff_ne, Int.not_lt, Int.not_le] at hg; omega))) rfl ?_
      refine Sq.gct _ rfl rfl (fun hg => Ev.ld1 (Opd.gv rfl hg) (some_getD [] (by first | omega | (simp only [Bool.and_true, Bool.true_and, decide_eq_true_eq, decide_eq_false_iff_not, Bool.and_eq_true, Bool.or_eq_true, Bool.and_eq_false_iff, Bool.or_eq_false_iff, Bool.not_eq_true', Bool.not_eq_false', beq_iff_eq, beq_eq_false_iff_ne, Int.not_lt, Int.not_le] at hg; omega))) Try.underlying9 trivial rfl) rfl ?_
      refine Sq.gct _ rfl rfl (fun hg => Ev.fldb0 (Opd.mk rfl) fo34_1) rfl ?_
      refine Sq.gct _ rfl rfl (fun hg => Ev.ldb (Opd.gv rfl hg) Try.underlying9 trivial (by rfl)) rfl ?_
      refine Sq.gct _ rfl rfl (fun hg => Ev.strne (Opd.gv rfl hg) (Opd.gv rfl hg)) rfl ?_
      refine Sq.gf _ rfl rfl (fun hg => Ev.and (Opd.gv rfl hg) (fun hp => Opd.gv rfl (and_i hg hp))) rfl ?_
      refine Sq.gf _ rfl rfl (fun hg => Ev.move (Opd.gv rfl hg)) rfl ?_
      refine Sq.gct _ rfl rfl (fun hg => Ev.move (Opd.mk rfl)) rfl ?_
      refine Sq.gct _ rfl rfl (fun hg => Ev.fldb0 (Opd.mk rfl) fo34_1) rfl ?_
      refine Sq.gct _ rfl rfl (fun hg => Ev.ldb (Opd.gv rfl hg) Try.underlying9 trivial (by rfl)) rfl ?_
      refine Sq.gct _ rfl rfl (fun hg => Ev.streq (Opd.gv rfl hg) (Opd.gv rfl hg)) rfl ?_
      refine Sq.gf _ rfl rfl (fun hg => Ev.and (Opd.gv rfl hg) (fun hp => Opd.gv rfl (and_i hg hp))) rfl ?_
      refine Sq.ev _ (Ev.or (Opd.mk rfl) (fun hp => Opd.gv rfl hp)) rfl ?_
      refine Sq.nil ?_
      refine St.then_normal ?_
      refine St.cond _ rfl (fun h75 => ?_) (fun h75 => ?_)
      · skip
        skip
        have e1 := any_take_t (f := deadAt ks (ks.getD (l.getD (l.length - 1) 0).toNat []) p) hx h75
        refine St.rg ?_
        refine St.ev _ (Ev.assign (Opd.mk rfl)) rfl ?_
        refine St.nil ?_
        refine St.in_normal ?_
        refine St.then_normal ?_
        refine St.rg ?_
        refine St.ev _ (Ev.add (Opd.mk rfl) (Opd.mk rfl) (by omega)) rfl ?_
        refine St.ev _ (Ev.move (Opd.mk rfl)) rfl ?_
        refine St.nil ?_
        refine St.then_normal ?_
        refine St.againS (j + 1) (by omega) (by first | omega | (dsimp only; omega)) (by repeat (first | exact Sub.nil | refine Sub.cons (by first | rfl | exact congrArg (fun z => some (iv z)) (by first | omega | (dsimp only; omega)) | exact congrArg (fun z => some (Value.bool z)) (by first | assumption | exact Eq.symm (by assumption))) ?_)) (fun _ hw => hw.sub)
      · skip
        skip
        have e1 := any_take_f (f := deadAt ks (ks.getD (l.getD (l.length - 1) 0).toNat []) p) hx h75
        refine St.skip ?_
        refine St.in_normal ?_
        refine St.then_normal ?_
        refine St.rg ?_
        refine St.ev _ (Ev.add (Opd.mk rfl) (Opd.mk rfl) (by omega)) rfl ?_
        refine St.ev _ (Ev.move (Opd.mk rfl)) rfl ?_
        refine St.nil ?_
        refine St.then_normal ?_
        refine St.againS (j + 1) (by omega) (by first | omega | (dsimp only; omega)) (by repeat (first | exact Sub.nil | refine Sub.cons (by first | rfl | exact congrArg (fun z => some (iv z)) (by first | omega | (dsimp only; omega)) | exact congrArg (fun z => some (Value.bool z)) (by first | assumption | exact Eq.symm (by assumption))) ?_)) (fun _ hw => hw.sub)
    · skip
      try simp only [Bool.and_true, Bool.true_and, decide_eq_true_eq, decide_eq_false_iff_not, Bool.and_eq_true, Bool.or_eq_true, Bool.and_eq_false_iff, Bool.or_eq_false_iff, Bool.not_eq_true', Bool.not_eq_false', beq_iff_eq, beq_eq_false_iff_ne, Int.not_lt, Int.not_le] at h35
      have hany : l.dropLast.any (deadAt ks (ks.getD (l.getD (l.length - 1) 0).toNat []) p) = (l.dropLast.take j).any (deadAt ks (ks.getD (l.getD (l.length - 1) 0).toNat []) p) := by rw [List.take_of_length_le (by omega)]
      refine St.exit ?_
      refine St.then_exit ?_
      refine St.then_exit ?_
      refine St.in_hit ?_
      refine St.then_normal ?_
      refine St.seq ?_
      refine St.rg ?_
      refine St.ev _ (Ev.move (Opd.mk rfl)) rfl ?_
      refine St.nil ?_
      refine St.then_normal ?_
      refine St.cond _ rfl (fun h77 => ?_) (fun h77 => ?_)
      · skip
        skip
        refine St.seq ?_
        refine St.rg ?_
        refine St.ev _ (Ev.assign (Opd.mk rfl)) rfl ?_
        refine St.nil ?_
        refine St.then_normal ?_
        refine St.rett ?_
        refine St.in_ret ?_
        refine St.then_ret ?_
        refine St.then_ret ?_
        refine St.in_ret ?_
        refine St.then_ret ?_
        refine St.rets [_] [] Try.results46 ⟨rfl, trivial⟩ ?_ (fun _ hw => hw.sub)
        exact be (any_of_some hp (by rw [hany, h77])).symm
      · skip
        skip
        refine St.skip ?_
        refine St.in_normal ?_
        refine St.then_normal ?_
        refine St.rg ?_
        refine St.ev _ (Ev.add (Opd.mk rfl) (Opd.mk rfl) (by omega)) rfl ?_
        refine St.ev _ (Ev.move (Opd.mk rfl)) rfl ?_
        refine St.nil ?_
        refine St.then_normal ?_
        refine St.againS (k + 1) ⟨by omega, all_take_some hall hp (by rw [hany, h77]; rfl)⟩ (by first | omega | (dsimp only; omega)) (by repeat (first | exact Sub.nil | refine Sub.cons (by first | rfl | exact congrArg (fun z => some (iv z)) (by first | omega | (dsimp only; omega)) | exact congrArg (fun z => some (Value.bool z)) (by first | assumption | exact Eq.symm (by assumption))) ?_)) (fun _ hw => hw.sub)
  · skip
    try simp only [Bool.and_true, Bool.true_and, decide_eq_true_eq, decide_eq_false_iff_not, Bool.and_eq_true, Bool.or_eq_true, Bool.and_eq_false_iff, Bool.or_eq_false_iff, Bool.not_eq_true', Bool.not_eq_false', beq_iff_eq, beq_eq_false_iff_ne, Int.not_lt, Int.not_le] at h25
    refine St.exit ?_
    refine St.then_exit ?_
    refine St.then_exit ?_
    refine St.in_hit ?_
    refine St.then_normal ?_
    refine St.seq ?_
    refine St.rg ?_
    refine St.ev _ (Ev.assign (Opd.mk rfl)) rfl ?_
    refine St.nil ?_
    refine St.then_normal ?_
    refine St.rett ?_
    refine St.rets [_] [] Try.results46 ⟨rfl, trivial⟩ ?_ (fun _ hw => hw.sub)
    exact be (any_none (k := k) hall (by omega)).symm

end Go.Proofs.Ytblnbjlcpleaaaa
