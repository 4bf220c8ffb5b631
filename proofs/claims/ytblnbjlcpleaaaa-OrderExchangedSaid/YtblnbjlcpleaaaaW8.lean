/-
  The law of mirrored rules.
  Conditions: the rules take no more bytes than a process has.
-/
import Derived.Test.YtblnbjlcpleaaaaW7
import Derived.Test.YtblnbjlcpleaaaaOrdM
set_option linter.unusedSimpArgs false
set_option linter.unusedVariables false
namespace Go.Proofs.Ytblnbjlcpleaaaa
open Go Go.J

theorem law5_spec (v0 v1 : Value) (rules : List Prec) (ks : List Str) (hsz : rules.length * 40 ≤ 140737488351232) : FnV Try.prog 5 #[v0, v1] [sl precR v0 rules, sl strR v1 ks] (.bool true) := by
  refine FnV.body2 (args := [v0, v1]) 108 Try.func5 rfl Try.ntmps5 rfl (fun c => ?_)
  refine St.seq ?_
  refine St.wf v0 (fun hwf0 hlen0 => ?_)
  refine St.wf v1 (fun hwf1 hlen1 => ?_)
  refine St.rg ?_
  refine St.ev _ (Ev.assign (Opd.mk rfl)) rfl ?_
  refine St.nil ?_
  refine St.then_normal ?_
  refine St.seq ?_
  refine St.seq ?_
  refine St.rg ?_
  refine St.ev _ (Ev.call (orderReady_spec) cb9 (Opds.nil)) rfl ?_
  refine St.ev _ (Ev.not (Opd.mk rfl)) rfl ?_
  refine St.nil ?_
  refine St.then_normal ?_
  refine St.condf _ rfl rfl ?_
  refine St.skip ?_
  refine St.then_normal ?_
  refine St.seq ?_
  refine St.rg ?_
  refine St.buildSl (xs := []) (ps := []) rfl (Opds.nil) Try.underlying22 sz34 zv34 rfl rfl (by simp [Value.cells]) rfl rfl (fun b18 => ?_)
  refine St.ev _ (Ev.assign (Opd.mk rfl)) rfl ?_
  refine St.nil ?_
  refine St.then_normal ?_
  refine St.seq ?_
  refine St.seq ?_
  refine St.rg ?_
  refine St.ev _ (Ev.assign (Opd.mk rfl)) rfl ?_
  refine St.nil ?_
  refine St.then_normal ?_
  refine St.block ?_
  refine St.rowEqN (.slice (some ⟨b18, 0, none⟩) 0 0) (show _ = (mirrorL (rules.take 0)).length from rfl) (show _ = rows precR (mirrorL (rules.take 0)) from rfl) ?_
  refine St.loopH2 (ι := Nat) (κ := Value) (fun k v T => (6, iv k) :: (5, v) :: T) (fun k v => [row v 34 3 (mirrorL (rules.take k)).length (rows precR (mirrorL (rules.take k))), dat (sl precR v0 rules), dat (sl strR v1 ks)]) (fun k v => k ≤ rules.length) (fun k v => rules.length - k) 0 (.slice (some ⟨b18, 0, none⟩) 0 0) (Keep.cons 0 rfl (Keep.cons 1 rfl (Keep.cons 4 rfl Keep.nil))) (Nat.zero_le _) (by repeat (first | exact Sub.nil | refine Sub.cons (by first | rfl | exact congrArg (fun z => some (iv z)) (by first | omega | (dsimp only; omega)) | exact congrArg (fun z => some (Value.bool z)) (by first | assumption | exact Eq.symm (by assumption))) ?_)) (fun _ hw => hw.sub) ?_
  intro k v hphi
  refine St.seq ?_
  refine St.seq ?_
  refine St.rg ?_
  refine St.ev _ (Ev.move (Opd.mk rfl)) rfl ?_
  refine St.ev _ (Ev.move (Opd.mk rfl)) rfl ?_
  refine St.ev _ (Ev.lensl (Opd.mk rfl) Try.underlying22) rfl ?_
  refine St.ev _ (Ev.lss (Opd.mk rfl) (Opd.mk rfl)) rfl ?_
  refine St.nil ?_
  refine St.then_normal ?_
  refine St.cond _ rfl (fun h22 => ?_) (fun h22 => ?_)
  · skip
    try simp only [Bool.and_true, Bool.true_and, decide_eq_true_eq, decide_eq_false_iff_not, Bool.and_eq_true, Bool.or_eq_true, Bool.and_eq_false_iff, Bool.or_eq_false_iff, Bool.not_eq_true', Bool.not_eq_false', beq_iff_eq, beq_eq_false_iff_ne, Int.not_lt, Int.not_le] at h22
    obtain ⟨p, hp⟩ := some_of_lt (show k < rules.length by omega)
    obtain ⟨hw1, hw2, hw3⟩ := hwf0 p (List.mem_of_getElem? hp)
    refine St.skip ?_
    refine St.then_normal ?_
    refine St.seq ?_
    refine St.block ?_
    refine St.seq ?_
    refine St.rg ?_
    refine St.ev _ (Ev.move (Opd.mk rfl)) rfl ?_
    refine St.ev _ (Ev.move (Opd.mk rfl)) rfl ?_
    refine St.ev _ (Ev.idxaddr  (Opd.mk rfl) (Opd.mk rfl) Try.underlying22 sz34 rfl (by omega)) rfl ?_
    refine St.ev _ (Ev.ldA (Opd.mk rfl) (by first | assumption | exact some_getD default (by omega)) Try.underlying34 trivial sz34 Cel.eq) rfl ?_
    refine St.alloc zc34 rfl (fun b7 => ?_)
    refine St.storeA (Opd.mk rfl) (Opd.mk rfl) sz34 (by first | simp only [List.length_cons, List.length_nil] | rfl) rfl ?_
    refine St.nil ?_
    refine St.then_normal ?_
    refine St.seq ?_
    refine St.seq ?_
    refine St.rg ?_
    refine St.ev _ (Ev.fldb0 (Opd.mk rfl) fo34_0) rfl ?_
    refine St.ev _ (Ev.ldb (Opd.mk rfl) Try.underlying3 trivial (by rfl)) rfl ?_
    refine St.ev _ (Ev.eql (Opd.mk rfl) (Opd.mk rfl)) rfl ?_
    refine St.nil ?_
    refine St.then_normal ?_
    refine St.cond _ rfl (fun h31 => ?_) (fun h31 => ?_)
    · skip
      try simp only [Bool.and_true, Bool.true_and, decide_eq_true_eq, decide_eq_false_iff_not, Bool.and_eq_true, Bool.or_eq_true, Bool.and_eq_false_iff, Bool.or_eq_false_iff, Bool.not_eq_true', Bool.not_eq_false', beq_iff_eq, beq_eq_false_iff_ne, Int.not_lt, Int.not_le] at h31
      refine St.exit ?_
      refine St.then_exit ?_
      refine St.in_hit ?_
      refine St.then_normal ?_
      refine St.rg ?_
      refine St.ev _ (Ev.move (Opd.mk rfl)) rfl ?_
      refine St.ev _ (Ev.add (Opd.mk rfl) (Opd.mk rfl) (by omega)) rfl ?_
      refine St.ev _ (Ev.assign (Opd.mk rfl)) rfl ?_
      refine St.nil ?_
      refine St.then_normal ?_
      have hq := mirrorL_none hp (show mirrorP p = none by unfold mirrorP; rw [if_pos (by omega)])
      refine St.rowEqN v (show _ = (mirrorL (rules.take (k + 1))).length by rw [hq]) (show _ = rows precR (mirrorL (rules.take (k + 1))) by rw [hq]) ?_
      refine St.againH2 (k + 1) v (by omega) (by first | omega | (dsimp only; omega)) (by repeat (first | exact Sub.nil | refine Sub.cons (by first | rfl | exact congrArg (fun z => some (iv z)) (by first | omega | (dsimp only; omega)) | exact congrArg (fun z => some (Value.bool z)) (by first | assumption | exact Eq.symm (by assumption))) ?_)) (fun _ hw => hw.sub)
    · skip
      try simp only [Bool.and_true, Bool.true_and, decide_eq_true_eq, decide_eq_false_iff_not, Bool.and_eq_true, Bool.or_eq_true, Bool.and_eq_false_iff, Bool.or_eq_false_iff, Bool.not_eq_true', Bool.not_eq_false', beq_iff_eq, beq_eq_false_iff_ne, Int.not_lt, Int.not_le] at h31
      refine St.skip ?_
      refine St.then_normal ?_
      refine St.seq ?_
      refine St.seq ?_
      refine St.rg ?_
      refine St.ev _ (Ev.fldb0 (Opd.mk rfl) fo34_0) rfl ?_
      refine St.ev _ (Ev.ldb (Opd.mk rfl) Try.underlying3 trivial (by rfl)) rfl ?_
      refine St.ev _ (Ev.eql (Opd.mk rfl) (Opd.mk rfl)) rfl ?_
      refine St.nil ?_
      refine St.then_normal ?_
      refine St.cond _ rfl (fun h34 => ?_) (fun h34 => ?_)
      · skip
        try simp only [Bool.and_true, Bool.true_and, decide_eq_true_eq, decide_eq_false_iff_not, Bool.and_eq_true, Bool.or_eq_true, Bool.and_eq_false_iff, Bool.or_eq_false_iff, Bool.not_eq_true', Bool.not_eq_false', beq_iff_eq, beq_eq_false_iff_ne, Int.not_lt, Int.not_le] at h34
        refine St.rg ?_
        refine St.ev _ (Ev.fldb0 (Opd.mk rfl) fo34_2) rfl ?_
        refine St.ev _ (Ev.ldb (Opd.mk rfl) Try.underlying9 trivial (by rfl)) rfl ?_
        refine St.ev _ (Ev.fldb0 (Opd.mk rfl) fo34_1) rfl ?_
        refine St.ev _ (Ev.ldb (Opd.mk rfl) Try.underlying9 trivial (by rfl)) rfl ?_
        refine St.ev _ (Ev.fldb0 (Opd.mk rfl) fo34_1) rfl ?_
        refine St.store1 (Opd.mk rfl) (Opd.mk rfl) sz9 rfl (by rfl) ?_
        refine St.ev _ (Ev.fldb0 (Opd.mk rfl) fo34_2) rfl ?_
        refine St.store1 (Opd.mk rfl) (Opd.mk rfl) sz9 rfl (by rfl) ?_
        refine St.nil ?_
        refine St.then_normal ?_
        refine St.rg ?_
        refine St.ev _ (Ev.move (Opd.mk rfl)) rfl ?_
        refine St.ev _ (Ev.ldbA (Opd.mk rfl) Try.underlying34 trivial (by exact sz34)) rfl ?_
        refine St.buildSl (xs := [(Operand.tmp 50)]) (ps := [(0, (Operand.tmp 50))]) rfl (Opds.cons (Opd.mk rfl) Opds.nil) Try.underlying22 sz34 zv34 rfl rfl (by simp [Value.cells]) rfl rfl (fun b51 => ?_)
        refine St.appendRow (Opd.mk rfl) (Opd.mk rfl) Try.underlying22 sz34 zv34 by34 (by simp [Value.cells, Value.oneCell']) (by have := mirrorL_take rules k; omega) (by have := mirrorL_take rules k; omega) rfl rfl rfl rfl (fun v52 hv52 => ?_)
        have hq : mirrorP p = some (⟨p.kind, p.b, p.a⟩) := by unfold mirrorP; rw [if_neg (by omega), if_pos (by omega)]
        refine St.rowEqN v52 (show _ = (mirrorL (rules.take (k + 1))).length by rw [mirrorL_some hp hq]; simp) (show _ = rows precR (mirrorL (rules.take (k + 1))) by rw [mirrorL_some hp hq, rows_snoc]; rfl) ?_
        refine St.ev _ (Ev.assign (Opd.mk rfl)) rfl ?_
        refine St.nil ?_
        refine St.in_normal ?_
        refine St.then_normal ?_
        refine St.rg ?_
        refine St.ev _ (Ev.move (Opd.mk rfl)) rfl ?_
        refine St.ev _ (Ev.add (Opd.mk rfl) (Opd.mk rfl) (by omega)) rfl ?_
        refine St.ev _ (Ev.assign (Opd.mk rfl)) rfl ?_
        refine St.nil ?_
        refine St.then_normal ?_
        refine St.againH2 (k + 1) v52 (by omega) (by first | omega | (dsimp only; omega)) (by repeat (first | exact Sub.nil | refine Sub.cons (by first | rfl | exact congrArg (fun z => some (iv z)) (by first | omega | (dsimp only; omega)) | exact congrArg (fun z => some (Value.bool z)) (by first | assumption | exact Eq.symm (by assumption))) ?_)) (fun _ hw => hw.sub)
      · skip
        try simp only [Bool.and_true, Bool.true_and, decide_eq_true_eq, decide_eq_false_iff_not, Bool.and_eq_true, Bool.or_eq_true, Bool.and_eq_false_iff, Bool.or_eq_false_iff, Bool.not_eq_true', Bool.not_eq_false', beq_iff_eq, beq_eq_false_iff_ne, Int.not_lt, Int.not_le] at h34
        refine St.seq ?_
        refine St.rg ?_
        refine St.ev _ (Ev.fldb0 (Opd.mk rfl) fo34_0) rfl ?_
        refine St.ev _ (Ev.ldb (Opd.mk rfl) Try.underlying3 trivial (by rfl)) rfl ?_
        refine St.ev _ (Ev.eql (Opd.mk rfl) (Opd.mk rfl)) rfl ?_
        refine St.nil ?_
        refine St.then_normal ?_
        refine St.cond _ rfl (fun h43 => ?_) (fun h43 => ?_)
        · skip
          try simp only [Bool.and_true, Bool.true_and, decide_eq_true_eq, decide_eq_false_iff_not, Bool.and_eq_true, Bool.or_eq_true, Bool.and_eq_false_iff, Bool.or_eq_false_iff, Bool.not_eq_true', Bool.not_eq_false', beq_iff_eq, beq_eq_false_iff_ne, Int.not_lt, Int.not_le] at h43
          refine St.rg ?_
          refine St.ev _ (Ev.fldb0 (Opd.mk rfl) fo34_0) rfl ?_
          refine St.store1 (Opd.mk rfl) (Opd.mk rfl) sz3 rfl (by rfl) ?_
          refine St.nil ?_
          refine St.then_normal ?_
          refine St.rg ?_
          refine St.ev _ (Ev.move (Opd.mk rfl)) rfl ?_
          refine St.ev _ (Ev.ldbA (Opd.mk rfl) Try.underlying34 trivial (by exact sz34)) rfl ?_
          refine St.buildSl (xs := [(Operand.tmp 50)]) (ps := [(0, (Operand.tmp 50))]) rfl (Opds.cons (Opd.mk rfl) Opds.nil) Try.underlying22 sz34 zv34 rfl rfl (by simp [Value.cells]) rfl rfl (fun b51 => ?_)
          refine St.appendRow (Opd.mk rfl) (Opd.mk rfl) Try.underlying22 sz34 zv34 by34 (by simp [Value.cells, Value.oneCell']) (by have := mirrorL_take rules k; omega) (by have := mirrorL_take rules k; omega) rfl rfl rfl rfl (fun v52 hv52 => ?_)
          have hq : mirrorP p = some (⟨4, p.a, p.b⟩) := by unfold mirrorP; rw [if_neg (by omega), if_neg (by omega), if_pos (by omega)]
          refine St.rowEqN v52 (show _ = (mirrorL (rules.take (k + 1))).length by rw [mirrorL_some hp hq]; simp) (show _ = rows precR (mirrorL (rules.take (k + 1))) by rw [mirrorL_some hp hq, rows_snoc]; rfl) ?_
          refine St.ev _ (Ev.assign (Opd.mk rfl)) rfl ?_
          refine St.nil ?_
          refine St.in_normal ?_
          refine St.then_normal ?_
          refine St.rg ?_
          refine St.ev _ (Ev.move (Opd.mk rfl)) rfl ?_
          refine St.ev _ (Ev.add (Opd.mk rfl) (Opd.mk rfl) (by omega)) rfl ?_
          refine St.ev _ (Ev.assign (Opd.mk rfl)) rfl ?_
          refine St.nil ?_
          refine St.then_normal ?_
          refine St.againH2 (k + 1) v52 (by omega) (by first | omega | (dsimp only; omega)) (by repeat (first | exact Sub.nil | refine Sub.cons (by first | rfl | exact congrArg (fun z => some (iv z)) (by first | omega | (dsimp only; omega)) | exact congrArg (fun z => some (Value.bool z)) (by first | assumption | exact Eq.symm (by assumption))) ?_)) (fun _ hw => hw.sub)
        · skip
          try simp only [Bool.and_true, Bool.true_and, decide_eq_true_eq, decide_eq_false_iff_not, Bool.and_eq_true, Bool.or_eq_true, Bool.and_eq_false_iff, Bool.or_eq_false_iff, Bool.not_eq_true', Bool.not_eq_false', beq_iff_eq, beq_eq_false_iff_ne, Int.not_lt, Int.not_le] at h43
          refine St.seq ?_
          refine St.rg ?_
          refine St.ev _ (Ev.fldb0 (Opd.mk rfl) fo34_0) rfl ?_
          refine St.ev _ (Ev.ldb (Opd.mk rfl) Try.underlying3 trivial (by rfl)) rfl ?_
          refine St.ev _ (Ev.eql (Opd.mk rfl) (Opd.mk rfl)) rfl ?_
          refine St.nil ?_
          refine St.then_normal ?_
          refine St.cond _ rfl (fun h47 => ?_) (fun h47 => ?_)
          · skip
            try simp only [Bool.and_true, Bool.true_and, decide_eq_true_eq, decide_eq_false_iff_not, Bool.and_eq_true, Bool.or_eq_true, Bool.and_eq_false_iff, Bool.or_eq_false_iff, Bool.not_eq_true', Bool.not_eq_false', beq_iff_eq, beq_eq_false_iff_ne, Int.not_lt, Int.not_le] at h47
            refine St.rg ?_
            refine St.ev _ (Ev.fldb0 (Opd.mk rfl) fo34_0) rfl ?_
            refine St.store1 (Opd.mk rfl) (Opd.mk rfl) sz3 rfl (by rfl) ?_
            refine St.nil ?_
            refine St.then_normal ?_
            refine St.rg ?_
            refine St.ev _ (Ev.move (Opd.mk rfl)) rfl ?_
            refine St.ev _ (Ev.ldbA (Opd.mk rfl) Try.underlying34 trivial (by exact sz34)) rfl ?_
            refine St.buildSl (xs := [(Operand.tmp 50)]) (ps := [(0, (Operand.tmp 50))]) rfl (Opds.cons (Opd.mk rfl) Opds.nil) Try.underlying22 sz34 zv34 rfl rfl (by simp [Value.cells]) rfl rfl (fun b51 => ?_)
            refine St.appendRow (Opd.mk rfl) (Opd.mk rfl) Try.underlying22 sz34 zv34 by34 (by simp [Value.cells, Value.oneCell']) (by have := mirrorL_take rules k; omega) (by have := mirrorL_take rules k; omega) rfl rfl rfl rfl (fun v52 hv52 => ?_)
            have hq : mirrorP p = some (⟨3, p.a, p.b⟩) := by unfold mirrorP; rw [if_neg (by omega), if_neg (by omega), if_neg (by omega), if_pos (by omega)]
            refine St.rowEqN v52 (show _ = (mirrorL (rules.take (k + 1))).length by rw [mirrorL_some hp hq]; simp) (show _ = rows precR (mirrorL (rules.take (k + 1))) by rw [mirrorL_some hp hq, rows_snoc]; rfl) ?_
            refine St.ev _ (Ev.assign (Opd.mk rfl)) rfl ?_
            refine St.nil ?_
            refine St.in_normal ?_
            refine St.then_normal ?_
            refine St.rg ?_
            refine St.ev _ (Ev.move (Opd.mk rfl)) rfl ?_
            refine St.ev _ (Ev.add (Opd.mk rfl) (Opd.mk rfl) (by omega)) rfl ?_
            refine St.ev _ (Ev.assign (Opd.mk rfl)) rfl ?_
            refine St.nil ?_
            refine St.then_normal ?_
            refine St.againH2 (k + 1) v52 (by omega) (by first | omega | (dsimp only; omega)) (by repeat (first | exact Sub.nil | refine Sub.cons (by first | rfl | exact congrArg (fun z => some (iv z)) (by first | omega | (dsimp only; omega)) | exact congrArg (fun z => some (Value.bool z)) (by first | assumption | exact Eq.symm (by assumption))) ?_)) (fun _ hw => hw.sub)
          · skip
            try simp only [Bool.and_true, Bool.true_and, decide_eq_true_eq, decide_eq_false_iff_not, Bool.and_eq_true, Bool.or_eq_true, Bool.and_eq_false_iff, Bool.or_eq_false_iff, Bool.not_eq_true', Bool.not_eq_false', beq_iff_eq, beq_eq_false_iff_ne, Int.not_lt, Int.not_le] at h47
            refine St.skip ?_
            refine St.then_normal ?_
            refine St.rg ?_
            refine St.ev _ (Ev.move (Opd.mk rfl)) rfl ?_
            refine St.ev _ (Ev.ldbA (Opd.mk rfl) Try.underlying34 trivial (by exact sz34)) rfl ?_
            refine St.buildSl (xs := [(Operand.tmp 50)]) (ps := [(0, (Operand.tmp 50))]) rfl (Opds.cons (Opd.mk rfl) Opds.nil) Try.underlying22 sz34 zv34 rfl rfl (by simp [Value.cells]) rfl rfl (fun b51 => ?_)
            refine St.appendRow (Opd.mk rfl) (Opd.mk rfl) Try.underlying22 sz34 zv34 by34 (by simp [Value.cells, Value.oneCell']) (by have := mirrorL_take rules k; omega) (by have := mirrorL_take rules k; omega) rfl rfl rfl rfl (fun v52 hv52 => ?_)
            have hq : mirrorP p = some (p) := by unfold mirrorP; rw [if_neg (by omega), if_neg (by omega), if_neg (by omega), if_neg (by omega)]
            refine St.rowEqN v52 (show _ = (mirrorL (rules.take (k + 1))).length by rw [mirrorL_some hp hq]; simp) (show _ = rows precR (mirrorL (rules.take (k + 1))) by rw [mirrorL_some hp hq, rows_snoc]; rfl) ?_
            refine St.ev _ (Ev.assign (Opd.mk rfl)) rfl ?_
            refine St.nil ?_
            refine St.in_normal ?_
            refine St.then_normal ?_
            refine St.rg ?_
            refine St.ev _ (Ev.move (Opd.mk rfl)) rfl ?_
            refine St.ev _ (Ev.add (Opd.mk rfl) (Opd.mk rfl) (by omega)) rfl ?_
            refine St.ev _ (Ev.assign (Opd.mk rfl)) rfl ?_
            refine St.nil ?_
            refine St.then_normal ?_
            refine St.againH2 (k + 1) v52 (by omega) (by first | omega | (dsimp only; omega)) (by repeat (first | exact Sub.nil | refine Sub.cons (by first | rfl | exact congrArg (fun z => some (iv z)) (by first | omega | (dsimp only; omega)) | exact congrArg (fun z => some (Value.bool z)) (by first | assumption | exact Eq.symm (by assumption))) ?_)) (fun _ hw => hw.sub)
  · skip
    try simp only [Bool.and_true, Bool.true_and, decide_eq_true_eq, decide_eq_false_iff_not, Bool.and_eq_true, Bool.or_eq_true, Bool.and_eq_false_iff, Bool.or_eq_false_iff, Bool.not_eq_true', Bool.not_eq_false', beq_iff_eq, beq_eq_false_iff_ne, Int.not_lt, Int.not_le] at h22
    have ek : rules.take k = rules := List.take_of_length_le (by omega)
    rw [ek]
    refine St.publish v precR (mirrorL rules) rfl rfl (mirror_wf hwf0) ?_
    refine St.exit ?_
    refine St.then_exit ?_
    refine St.then_exit ?_
    refine St.in_hit ?_
    refine St.then_normal ?_
    refine St.seq ?_
    refine St.rg ?_
    refine St.ev _ (Ev.move (Opd.mk rfl)) rfl ?_
    refine St.ev _ (Ev.move (Opd.mk rfl)) rfl ?_
    refine St.calld (Orders_spec v0 v1 rules ks) cb13 (Opds.cons (Opd.mk rfl) (Opds.cons (Opd.mk rfl) Opds.nil)) rfl ?_
    rintro v56 _ ⟨vo, vs, hvl, rfl, rfl⟩
    refine St.app2 ?_
    refine St.ev _ (Ev.move (Opd.mk rfl)) rfl ?_
    refine St.ev _ (Ev.extract (Opd.mk rfl) rfl) rfl ?_
    refine St.ev _ (Ev.extract (Opd.mk rfl) rfl) rfl ?_
    refine St.alloc zc27 rfl (fun b9 => ?_)
    refine St.ev _ (Ev.assign (Opd.mk rfl)) rfl ?_
    refine St.storeA (Opd.mk rfl) (Opd.mk rfl) sz27 (by first | simp only [List.length_cons, List.length_nil] | rfl) rfl ?_
    refine St.nil ?_
    refine St.then_normal ?_
    refine St.seq ?_
    refine St.seq ?_
    refine St.rg ?_
    refine St.ev _ (Ev.fldb0 (Opd.mk rfl) fo27_0) rfl ?_
    refine St.ev _ (Ev.ldb (Opd.mk rfl) Try.underlying3 trivial (by rfl)) rfl ?_
    refine St.ev _ (Ev.neq (Opd.mk rfl) (Opd.mk rfl)) rfl ?_
    refine St.nil ?_
    refine St.then_normal ?_
    refine St.cond _ rfl (fun h61 => ?_) (fun h61 => ?_)
    · skip
      try simp only [Bool.and_true, Bool.true_and, decide_eq_true_eq, decide_eq_false_iff_not, Bool.and_eq_true, Bool.or_eq_true, Bool.and_eq_false_iff, Bool.or_eq_false_iff, Bool.not_eq_true', Bool.not_eq_false', beq_iff_eq, beq_eq_false_iff_ne, Int.not_lt, Int.not_le] at h61
      refine St.seq ?_
      refine St.rg ?_
      refine St.ev _ (Ev.assign (Opd.mk rfl)) rfl ?_
      refine St.nil ?_
      refine St.then_normal ?_
      refine St.rett ?_
      refine St.then_ret ?_
      refine St.rets [_] [] Try.results5 ⟨rfl, trivial⟩ ?_ (fun _ hw => hw.sub)
      rfl
    · skip
      try simp only [Bool.and_true, Bool.true_and, decide_eq_true_eq, decide_eq_false_iff_not, Bool.and_eq_true, Bool.or_eq_true, Bool.and_eq_false_iff, Bool.or_eq_false_iff, Bool.not_eq_true', Bool.not_eq_false', beq_iff_eq, beq_eq_false_iff_ne, Int.not_lt, Int.not_le] at h61
      obtain ⟨hc, hgl, hge⟩ := ordersOf_ok (rules := rules) (ks := ks) (by omega)
      rw [hge] at hvl ⊢
      dsimp only at hvl ⊢
      obtain ⟨_, hks⟩ := chk_ok hc
      refine St.skip ?_
      refine St.then_normal ?_
      refine St.seq ?_
      refine St.seq ?_
      refine St.rg ?_
      refine St.ev _ (Ev.assign (Opd.mk rfl)) rfl ?_
      refine St.nil ?_
      refine St.then_normal ?_
      refine St.block ?_
      refine St.loopH (ι := Nat) (fun i T => (10, iv i) :: T) (fun i => [dat (sl strR v1 ks), dat (sl precR v (mirrorL rules)), dat (sl valR vo vs), dat (ptw intR vs (good rules ks))]) (fun i => i ≤ (good rules ks).length) (fun i => (good rules ks).length - i) 0 (Keep.cons 1 rfl (Keep.cons 5 rfl (Keep.cons 8 rfl Keep.nil))) (Nat.zero_le _) (by repeat (first | exact Sub.nil | refine Sub.cons (by first | rfl | exact congrArg (fun z => some (iv z)) (by first | omega | (dsimp only; omega)) | exact congrArg (fun z => some (Value.bool z)) (by first | assumption | exact Eq.symm (by assumption))) ?_)) (fun _ hw => hw.sub) ?_
      intro i hphi
      refine St.seq ?_
      refine St.seq ?_
      refine St.rg ?_
      refine St.ev _ (Ev.move (Opd.mk rfl)) rfl ?_
      refine St.ev _ (Ev.move (Opd.mk rfl)) rfl ?_
      refine St.ev _ (Ev.lensl (Opd.mk rfl) Try.underlying35) rfl ?_
      refine St.ev _ (Ev.lss (Opd.mk rfl) (Opd.mk rfl)) rfl ?_
      refine St.nil ?_
      refine St.then_normal ?_
      refine St.cond _ rfl (fun h65 => ?_) (fun h65 => ?_)
      · skip
        try simp only [Bool.and_true, Bool.true_and, decide_eq_true_eq, decide_eq_false_iff_not, Bool.and_eq_true, Bool.or_eq_true, Bool.and_eq_false_iff, Bool.or_eq_false_iff, Bool.not_eq_true', Bool.not_eq_false', beq_iff_eq, beq_eq_false_iff_ne, Int.not_lt, Int.not_le] at h65
        obtain ⟨x, hx⟩ := some_of_lt (show i < (good rules ks).length by omega)
        obtain ⟨u, hu⟩ := some_of_lt (show i < vs.length by omega)
        refine St.ptw (vs := vs) i hu hx ?_
        obtain ⟨hx1, hx2, hx3, hx4⟩ := good_ok (List.mem_of_getElem? hx)
        refine St.skip ?_
        refine St.then_normal ?_
        refine St.seq ?_
        refine St.block ?_
        refine St.seq ?_
        refine St.rg ?_
        refine St.buildSl (xs := []) (ps := []) rfl (Opds.nil) Try.underlying24 sz3 zv3 rfl rfl (by simp [Value.cells]) rfl rfl (fun b68 => ?_)
        refine St.ev _ (Ev.assign (Opd.mk rfl)) rfl ?_
        refine St.nil ?_
        refine St.then_normal ?_
        refine St.seq ?_
        refine St.seq ?_
        refine St.rg ?_
        refine St.ev _ (Ev.move (Opd.mk rfl)) rfl ?_
        refine St.ev _ (Ev.move (Opd.mk rfl)) rfl ?_
        refine St.ev _ (Ev.idxaddr  (Opd.mk rfl) (Opd.mk rfl) Try.underlying35 sz24 rfl (by omega)) rfl ?_
        refine St.ev _ (Ev.ld1 (Opd.mk rfl) hu Try.underlying24 trivial rfl) rfl ?_
        refine St.ev _ (Ev.lensl (Opd.mk rfl) Try.underlying24) rfl ?_
        refine St.ev _ (Ev.sub (Opd.mk rfl) (Opd.mk rfl) (by omega)) rfl ?_
        refine St.ev _ (Ev.assign (Opd.mk rfl)) rfl ?_
        refine St.nil ?_
        refine St.then_normal ?_
        refine St.block ?_
        refine St.rowEqN (.slice (some ⟨b68, 0, none⟩) 0 0) (show _ = 0 from rfl) (show _ = rows intR (x.reverse.take 0) from rfl) ?_
        refine St.loopH2 (ι := Nat) (κ := Value) (fun j w T => (12, iv ((x.length : Int) - 1 - (j : Nat))) :: (11, w) :: T) (fun j w => [row w 3 1 j (rows intR (x.reverse.take j)), dat (sl strR v1 ks), dat (sl precR v (mirrorL rules)), dat (sl valR vo vs), dat (ptw intR vs (good rules ks)), dat (sl intR u.1 x)]) (fun j w => j ≤ x.length) (fun j w => x.length - j) 0 (.slice (some ⟨b68, 0, none⟩) 0 0) (Keep.cons 1 rfl (Keep.cons 5 rfl (Keep.cons 8 rfl (Keep.cons 10 rfl Keep.nil)))) (Nat.zero_le _) (by repeat (first | exact Sub.nil | refine Sub.cons (by first | rfl | exact congrArg (fun z => some (iv z)) (by first | omega | (dsimp only; omega)) | exact congrArg (fun z => some (Value.bool z)) (by first | assumption | exact Eq.symm (by assumption))) ?_)) (fun _ hw => hw.sub) ?_
        intro j w hphi
        refine St.seq ?_
        refine St.seq ?_
        refine St.rg ?_
        refine St.ev _ (Ev.move (Opd.mk rfl)) rfl ?_
        refine St.ev _ (Ev.geq (Opd.mk rfl) (Opd.mk rfl)) rfl ?_
        refine St.nil ?_
        refine St.then_normal ?_
        refine St.cond _ rfl (fun h76 => ?_) (fun h76 => ?_)
        · skip
          try simp only [Bool.and_true, Bool.true_and, decide_eq_true_eq, decide_eq_false_iff_not, Bool.and_eq_true, Bool.or_eq_true, Bool.and_eq_false_iff, Bool.or_eq_false_iff, Bool.not_eq_true', Bool.not_eq_false', beq_iff_eq, beq_eq_false_iff_ne, Int.not_lt, Int.not_le] at h76
          refine St.skip ?_
          refine St.then_normal ?_
          refine St.seq ?_
          refine St.block ?_
          refine St.rg ?_
          refine St.ev _ (Ev.move (Opd.mk rfl)) rfl ?_
          refine St.ev _ (Ev.move (Opd.mk rfl)) rfl ?_
          refine St.ev _ (Ev.move (Opd.mk rfl)) rfl ?_
          refine St.ev _ (Ev.idxaddr  (Opd.mk rfl) (Opd.mk rfl) Try.underlying35 sz24 rfl (by omega)) rfl ?_
          refine St.ev _ (Ev.ld1 (Opd.mk rfl) hu Try.underlying24 trivial rfl) rfl ?_
          refine St.ev _ (Ev.move (Opd.mk rfl)) rfl ?_
          refine St.ev _ (Ev.idxaddr (k := (x.length - 1 - j)) (Opd.mk rfl) (Opd.mk rfl) Try.underlying24 sz3 (by omega) (by omega)) rfl ?_
          refine St.ev _ (Ev.ld1 (Opd.mk rfl) (some_getD 0 (by omega)) Try.underlying3 trivial rfl) rfl ?_
          refine St.buildSl (xs := [(Operand.tmp 86)]) (ps := [(0, (Operand.tmp 86))]) rfl (Opds.cons (Opd.mk rfl) Opds.nil) Try.underlying24 sz3 zv3 rfl rfl (by simp [Value.cells]) rfl rfl (fun b87 => ?_)
          refine St.appendRow (Opd.mk rfl) (Opd.mk rfl) Try.underlying24 sz3 zv3 by3 (by simp [Value.oneCell', Value.cells]) (by omega) (by omega) rfl rfl rfl rfl (fun v88 hv88 => ?_)
          refine St.ev _ (Ev.assign (Opd.mk rfl)) rfl ?_
          refine St.nil ?_
          refine St.in_normal ?_
          refine St.then_normal ?_
          refine St.rg ?_
          refine St.ev _ (Ev.move (Opd.mk rfl)) rfl ?_
          refine St.ev _ (Ev.sub (Opd.mk rfl) (Opd.mk rfl) (by omega)) rfl ?_
          refine St.ev _ (Ev.assign (Opd.mk rfl)) rfl ?_
          refine St.nil ?_
          refine St.then_normal ?_
          refine St.rowEqN v88 (show _ = j + 1 by omega) (show _ = rows intR (x.reverse.take (j + 1)) by rw [rev_snoc (show j < x.length by omega), rows_snoc]; rfl) ?_
          refine St.againH2 (j + 1) v88 (by omega) (by first | omega | (dsimp only; omega)) (by repeat (first | exact Sub.nil | refine Sub.cons (by first | rfl | exact congrArg (fun z => some (iv z)) (by first | omega | (dsimp only; omega)) | exact congrArg (fun z => some (Value.bool z)) (by first | assumption | exact Eq.symm (by assumption))) ?_)) (fun _ hw => hw.sub)
        · skip
          try simp only [Bool.and_true, Bool.true_and, decide_eq_true_eq, decide_eq_false_iff_not, Bool.and_eq_true, Bool.or_eq_true, Bool.and_eq_false_iff, Bool.or_eq_false_iff, Bool.not_eq_true', Bool.not_eq_false', beq_iff_eq, beq_eq_false_iff_ne, Int.not_lt, Int.not_le] at h76
          have ej : x.reverse.take j = x.reverse := List.take_of_length_le (by simp; omega)
          rw [ej]
          refine St.publish w intR x.reverse rfl (by simp; omega) (fun y hy => by have := hx1 y (List.mem_reverse.1 hy); exact ⟨by omega, by omega⟩) ?_
          have hal := Allowed_spec v v1 w (mirrorL rules) ks x.reverse
          rw [mirror_allowed hc (List.mem_of_getElem? hx)] at hal
          refine St.exit ?_
          refine St.then_exit ?_
          refine St.then_exit ?_
          refine St.in_hit ?_
          refine St.then_normal ?_
          refine St.seq ?_
          refine St.rg ?_
          refine St.ev _ (Ev.move (Opd.mk rfl)) rfl ?_
          refine St.ev _ (Ev.move (Opd.mk rfl)) rfl ?_
          refine St.ev _ (Ev.move (Opd.mk rfl)) rfl ?_
          refine St.ev _ (Ev.call (hal) cb10 (Opds.cons (Opd.mk rfl) (Opds.cons (Opd.mk rfl) (Opds.cons (Opd.mk rfl) Opds.nil)))) rfl ?_
          refine St.ev _ (Ev.move (Opd.mk rfl)) rfl ?_
          refine St.ev _ (Ev.extract (Opd.mk rfl) rfl) rfl ?_
          refine St.ev _ (Ev.extract (Opd.mk rfl) rfl) rfl ?_
          refine St.ev _ (Ev.extract (Opd.mk rfl) rfl) rfl ?_
          refine St.alloc zc27 rfl (fun b15 => ?_)
          refine St.ev _ (Ev.assign (Opd.mk rfl)) rfl ?_
          refine St.ev _ (Ev.assign (Opd.mk rfl)) rfl ?_
          refine St.storeA (Opd.mk rfl) (Opd.mk rfl) sz27 (by first | simp only [List.length_cons, List.length_nil] | rfl) rfl ?_
          refine St.nil ?_
          refine St.then_normal ?_
          refine St.seq ?_
          refine St.rg ?_
          refine St.ev _ (Ev.fldb0 (Opd.mk rfl) fo27_0) rfl ?_
          refine St.ev _ (Ev.ldb (Opd.mk rfl) Try.underlying3 trivial (by rfl)) rfl ?_
          refine St.ev _ (Ev.neq (Opd.mk rfl) (Opd.mk rfl)) rfl ?_
          refine St.ev _ (Ev.move (Opd.mk rfl)) rfl ?_
          refine St.gf _ rfl rfl (fun hg => Ev.move (Opd.mk rfl)) rfl ?_
          refine St.gf _ rfl rfl (fun hg => Ev.not (Opd.gv rfl hg)) rfl ?_
          refine St.ev _ (Ev.or (Opd.mk rfl) (fun hp => Opd.gv rfl hp)) rfl ?_
          refine St.ev _ (Ev.move (Opd.mk rfl)) rfl ?_
          refine St.gf _ rfl rfl (fun hg => Ev.move (Opd.mk rfl)) rfl ?_
          refine St.gf _ rfl rfl (fun hg => Ev.neq (Opd.gv rfl hg) (Opd.mk rfl)) rfl ?_
          refine St.ev _ (Ev.or (Opd.mk rfl) (fun hp => Opd.gv rfl hp)) rfl ?_
          refine St.nil ?_
          refine St.then_normal ?_
          refine St.condf _ rfl (by decide) ?_
          refine St.skip ?_
          refine St.in_normal ?_
          refine St.then_normal ?_
          refine St.rg ?_
          refine St.ev _ (Ev.move (Opd.mk rfl)) rfl ?_
          refine St.ev _ (Ev.add (Opd.mk rfl) (Opd.mk rfl) (by omega)) rfl ?_
          refine St.ev _ (Ev.assign (Opd.mk rfl)) rfl ?_
          refine St.nil ?_
          refine St.then_normal ?_
          refine St.againH (i + 1) (by omega) (by first | omega | (dsimp only; omega)) (by repeat (first | exact Sub.nil | refine Sub.cons (by first | rfl | exact congrArg (fun z => some (iv z)) (by first | omega | (dsimp only; omega)) | exact congrArg (fun z => some (Value.bool z)) (by first | assumption | exact Eq.symm (by assumption))) ?_)) (fun _ hw => hw.sub)
      · skip
        try simp only [Bool.and_true, Bool.true_and, decide_eq_true_eq, decide_eq_false_iff_not, Bool.and_eq_true, Bool.or_eq_true, Bool.and_eq_false_iff, Bool.or_eq_false_iff, Bool.not_eq_true', Bool.not_eq_false', beq_iff_eq, beq_eq_false_iff_ne, Int.not_lt, Int.not_le] at h65
        refine St.exit ?_
        refine St.then_exit ?_
        refine St.then_exit ?_
        refine St.in_hit ?_
        refine St.then_normal ?_
        refine St.seq ?_
        refine St.rg ?_
        refine St.ev _ (Ev.assign (Opd.mk rfl)) rfl ?_
        refine St.nil ?_
        refine St.then_normal ?_
        refine St.rett ?_
        refine St.rets [_] [] Try.results5 ⟨rfl, trivial⟩ ?_ (fun _ hw => hw.sub)
        rfl

end Go.Proofs.Ytblnbjlcpleaaaa
