/-
  The walk of what neighbours share.
  Conditions: a list of at most 2000 numbers.
-/
import Derived.Test.YtblmnncmkibhnaaW7
import Derived.Test.YtblmnncmkibhnaaJ18
import Derived.Test.YtblmnncmkibhnaaSufK
set_option linter.unusedSimpArgs false
set_option linter.unusedVariables false
namespace Go.Proofs.Ytblmnncmkibhnaa
open Go Go.J

theorem common_spec (v0 v1 : Value) (p : List Int) (l : List Nat) (hs : IsSuf p l) (hn : p.length ≤ 2000) :
    FnH Try.prog 36 #[v0, v1] ([sl intR v0 p, sl intR v1 (ints l)].map dat) (fun u H' => u.oneCell' = true ∧ H' = [row u 3 1 p.length (rows intR (ints (nears p l)))]) := by
  refine FnH.body (args := [v0, v1]) 90 Try.func36 rfl Try.ntmps36 rfl (fun c => ?_)
  refine St.seq ?_
  refine St.cast (H' := [dat (sl intR v0 p), dat (sl intR v1 (ints l))]) rfl ?_
  have hp := hs.1
  have hll : l.length = p.length := by rw [hp.length_eq, List.length_range]
  have hli := ints_length l
  refine St.rg ?_
  refine St.ev _ (Ev.assign (Opd.mk rfl)) rfl ?_
  refine St.nil ?_
  refine St.then_normal ?_
  refine St.seq ?_
  refine St.rg ?_
  refine St.ev _ (Ev.move (Opd.mk rfl)) rfl ?_
  refine St.ev _ (Ev.lensl (Opd.mk rfl) Try.underlying22) rfl ?_
  refine St.ev _ (Ev.assign (Opd.mk rfl)) rfl ?_
  refine St.nil ?_
  refine St.then_normal ?_
  refine St.seq ?_
  refine St.rg ?_
  refine St.ev _ (Ev.move (Opd.mk rfl)) rfl ?_
  refine St.makeSl (m := p.length) (Opd.mk rfl) (Opd.mk rfl) Try.underlying22 sz3 zv3 by3 rfl rfl (by omega) rfl rfl (fun b16 => ?_)
  refine St.ev _ (Ev.assign (Opd.mk rfl)) rfl ?_
  refine St.nil ?_
  refine St.then_normal ?_
  refine St.seq ?_
  refine St.seq ?_
  refine St.rg ?_
  refine St.ev _ (Ev.move (Opd.mk rfl)) rfl ?_
  refine St.ev _ (Ev.lensl (Opd.mk rfl) Try.underlying22) rfl ?_
  rw [hli, hll]
  refine St.ev _ (Ev.move (Opd.mk rfl)) rfl ?_
  refine St.nil ?_
  refine St.then_normal ?_
  refine St.block ?_
  refine St.rowEq (.slice (some ⟨b16, 0, none⟩) p.length p.length) (show _ = rows intR (List.replicate p.length 0) from (rows_replicate rfl _).symm) ?_
  refine St.loopH (ι := Nat × List Int) (fun x T => (19, iv x.1) :: T) (fun x => [row (.slice (some ⟨b16, 0, none⟩) p.length p.length) 3 1 p.length (rows intR x.2), dat (sl intR v0 p), dat (sl intR v1 (ints l))]) (fun x => x.1 ≤ p.length ∧ x.2.length = p.length ∧ ∀ j, j < x.1 → x.2.getD (l.getD j 0) 0 = (j : Int)) (fun x => p.length - x.1) (0, List.replicate p.length 0) (Keep.cons 0 rfl (Keep.cons 1 rfl (Keep.cons 4 rfl (Keep.cons 5 rfl (Keep.cons 6 rfl (Keep.cons 17 rfl (Keep.cons 18 rfl Keep.nil))))))) ⟨Nat.zero_le _, by simp, fun j hj => absurd hj (Nat.not_lt_zero j)⟩ (by repeat (first | exact Sub.nil | refine Sub.cons (by first | rfl | exact congrArg (fun z => some (iv z)) (by first | omega | (dsimp only; omega)) | exact congrArg (fun z => some (Value.bool z)) (by first | assumption | exact Eq.symm (by assumption))) ?_)) (fun _ hw => hw.sub) ?_
  intro x hphi
  obtain ⟨hk, hal, hat⟩ := hphi
  refine St.seq ?_
  refine St.rg ?_
  refine St.ev _ (Ev.lss (Opd.mk rfl) (Opd.mk rfl)) rfl ?_
  refine St.nil ?_
  refine St.then_normal ?_
  refine St.seq ?_
  refine St.cond _ rfl (fun h20 => ?_) (fun h20 => ?_)
  · skip
    try simp only [Bool.and_true, Bool.true_and, decide_eq_true_eq, decide_eq_false_iff_not, Bool.and_eq_true, Bool.or_eq_true, Bool.and_eq_false_iff, Bool.or_eq_false_iff, Bool.not_eq_true', Bool.not_eq_false', beq_iff_eq, beq_eq_false_iff_ne, Int.not_lt, Int.not_le] at h20
    have e0 : (ints l)[x.1]? = some ((l.getD x.1 0 : Nat) : Int) := by rw [some_getD 0 (show x.1 < (ints l).length by omega), ints_getD]
    have hb := perm_lt hp (show x.1 < p.length by omega)
    refine St.skip ?_
    refine St.then_normal ?_
    refine St.seq ?_
    refine St.block ?_
    refine St.seq ?_
    refine St.rg ?_
    refine St.ev _ (Ev.move (Opd.mk rfl)) rfl ?_
    refine St.ev _ (Ev.idxaddr (k := x.1) (Opd.mk rfl) (Opd.mk rfl) Try.underlying22 sz3 (by omega) (by omega)) rfl ?_
    refine St.ev _ (Ev.ld1 (Opd.mk rfl) e0 Try.underlying3 trivial rfl) rfl ?_
    refine St.ev _ (Ev.assign (Opd.mk rfl)) rfl ?_
    refine St.ev _ (Ev.assign (Opd.mk rfl)) rfl ?_
    refine St.nil ?_
    refine St.then_normal ?_
    refine St.rg ?_
    refine St.ev _ (Ev.move (Opd.mk rfl)) rfl ?_
    refine St.ev _ (Ev.move (Opd.mk rfl)) rfl ?_
    refine St.ev _ (Ev.move (Opd.mk rfl)) rfl ?_
    refine St.ev _ (Ev.idxaddrrow (k := (l.getD x.1 0)) (Opd.mk rfl) (Opd.mk rfl) Try.underlying22 sz3 (by omega) hb) rfl ?_
    refine St.storerow (Opd.mk rfl) (Opd.mk rfl) sz3 rfl hb (by decide) ?_
    refine St.rowEq (.slice (some ⟨b16, 0, none⟩) p.length p.length) (rowI_set _ _ _) ?_
    refine St.nil ?_
    refine St.in_normal ?_
    refine St.then_normal ?_
    refine St.rg ?_
    refine St.ev _ (Ev.add (Opd.mk rfl) (Opd.mk rfl) (by omega)) rfl ?_
    refine St.ev _ (Ev.move (Opd.mk rfl)) rfl ?_
    refine St.nil ?_
    refine St.then_normal ?_
    refine St.againH (x.1 + 1, x.2.set (l.getD x.1 0) (x.1 : Int)) ⟨by show x.1 + 1 ≤ _; omega, by simp [hal], pos_step hp (by omega) hal hat⟩ (by first | omega | (dsimp only; omega)) (by repeat (first | exact Sub.nil | refine Sub.cons (by first | rfl | exact congrArg (fun z => some (iv z)) (by first | omega | (dsimp only; omega)) | exact congrArg (fun z => some (Value.bool z)) (by first | assumption | exact Eq.symm (by assumption))) ?_)) (fun _ hw => hw.sub)
  · skip
    try simp only [Bool.and_true, Bool.true_and, decide_eq_true_eq, decide_eq_false_iff_not, Bool.and_eq_true, Bool.or_eq_true, Bool.and_eq_false_iff, Bool.or_eq_false_iff, Bool.not_eq_true', Bool.not_eq_false', beq_iff_eq, beq_eq_false_iff_ne, Int.not_lt, Int.not_le] at h20
    have hx1 : x.1 = p.length := by omega
    rw [hx1] at hat
    generalize x.2 = at_ at hal hat ⊢
    refine St.exit ?_
    refine St.then_exit ?_
    refine St.then_exit ?_
    refine St.in_hit ?_
    refine St.then_normal ?_
    refine St.seq ?_
    refine St.rg ?_
    refine St.ev _ (Ev.move (Opd.mk rfl)) rfl ?_
    refine St.makeSl (m := p.length) (Opd.mk rfl) (Opd.mk rfl) Try.underlying22 sz3 zv3 by3 rfl rfl (by omega) rfl rfl (fun b30 => ?_)
    refine St.ev _ (Ev.assign (Opd.mk rfl)) rfl ?_
    refine St.nil ?_
    refine St.then_normal ?_
    refine St.seq ?_
    refine St.rg ?_
    refine St.ev _ (Ev.assign (Opd.mk rfl)) rfl ?_
    refine St.nil ?_
    refine St.then_normal ?_
    refine St.seq ?_
    refine St.seq ?_
    refine St.rg ?_
    refine St.ev _ (Ev.move (Opd.mk rfl)) rfl ?_
    refine St.ev _ (Ev.lensl (Opd.mk rfl) Try.underlying22) rfl ?_
    refine St.ev _ (Ev.move (Opd.mk rfl)) rfl ?_
    refine St.nil ?_
    refine St.then_normal ?_
    refine St.block ?_
    refine St.rowEq (.slice (some ⟨b30, 0, none⟩) p.length p.length) (show _ = rows intR (ints (List.replicate p.length 0)) by rw [show ints (List.replicate p.length 0) = List.replicate p.length 0 by simp [ints]]; exact (rows_replicate rfl _).symm) ?_
    refine St.loopH (ι := Nat × Nat × List Nat) (fun y T => (33, iv y.1) :: (10, iv y.2.1) :: T) (fun y => [row (.slice (some ⟨b30, 0, none⟩) p.length p.length) 3 1 p.length (rows intR (ints y.2.2)), row (.slice (some ⟨b16, 0, none⟩) p.length p.length) 3 1 p.length (rows intR at_), dat (sl intR v0 p), dat (sl intR v1 (ints l))]) (fun y => y.1 ≤ p.length ∧ y.2.2.length = p.length ∧ (∀ k, k < p.length → y.2.2.getD k 0 = if l.getD k 0 < y.1 then near p l k else 0) ∧ (∀ k, k < p.length → l.getD k 0 = y.1 → y.2.1 ≤ near p l k)) (fun y => p.length - y.1) (0, 0, List.replicate p.length 0) (Keep.cons 0 rfl (Keep.cons 1 rfl (Keep.cons 4 rfl (Keep.cons 5 rfl (Keep.cons 6 rfl (Keep.cons 9 rfl (Keep.cons 32 rfl Keep.nil))))))) ⟨Nat.zero_le _, by simp, fun k hk => by rw [if_neg (Nat.not_lt_zero _), List.getD_eq_getElem?_getD, List.getElem?_replicate, if_pos hk]; rfl, fun k _ _ => Nat.zero_le _⟩ (by repeat (first | exact Sub.nil | refine Sub.cons (by first | rfl | exact congrArg (fun z => some (iv z)) (by first | omega | (dsimp only; omega)) | exact congrArg (fun z => some (Value.bool z)) (by first | assumption | exact Eq.symm (by assumption))) ?_)) (fun _ hw => hw.sub) ?_
    rintro ⟨i, h, r⟩ ⟨hi, hrl, hrv, hrn⟩
    dsimp only at hi hrl hrv hrn ⊢
    refine St.seq ?_
    refine St.rg ?_
    refine St.ev _ (Ev.lss (Opd.mk rfl) (Opd.mk rfl)) rfl ?_
    refine St.nil ?_
    refine St.then_normal ?_
    refine St.seq ?_
    refine St.cond _ rfl (fun h34 => ?_) (fun h34 => ?_)
    · skip
      try simp only [Bool.and_true, Bool.true_and, decide_eq_true_eq, decide_eq_false_iff_not, Bool.and_eq_true, Bool.or_eq_true, Bool.and_eq_false_iff, Bool.or_eq_false_iff, Bool.not_eq_true', Bool.not_eq_false', beq_iff_eq, beq_eq_false_iff_ne, Int.not_lt, Int.not_le] at h34
      obtain ⟨j, hj, hji⟩ := perm_at hp (show i < p.length by omega)
      have hatj : at_.getD i 0 = (j : Int) := by rw [← hji]; exact hat j hj
      refine St.skip ?_
      refine St.then_normal ?_
      refine St.seq ?_
      refine St.block ?_
      refine St.seq ?_
      refine St.rg ?_
      refine St.ev _ (Ev.move (Opd.mk rfl)) rfl ?_
      refine St.ev _ (Ev.assign (Opd.mk rfl)) rfl ?_
      refine St.nil ?_
      refine St.then_normal ?_
      refine St.seq ?_
      refine St.seq ?_
      refine St.rg ?_
      refine St.ev _ (Ev.move (Opd.mk rfl)) rfl ?_
      refine St.ev _ (Ev.move (Opd.mk rfl)) rfl ?_
      refine St.ev _ (Ev.idxaddrrow (k := i) (Opd.mk rfl) (Opd.mk rfl) Try.underlying22 sz3 (by omega) (by omega)) rfl ?_
      refine St.ev _ (Ev.ldrow (Opd.mk rfl) Try.underlying3 trivial (by omega) (rowI (by omega))) rfl ?_
      rw [hatj]
      refine St.ev _ (Ev.eql (Opd.mk rfl) (Opd.mk rfl)) rfl ?_
      refine St.nil ?_
      refine St.then_normal ?_
      refine St.cond _ rfl (fun h40 => ?_) (fun h40 => ?_)
      · skip
        try simp only [Bool.and_true, Bool.true_and, decide_eq_true_eq, decide_eq_false_iff_not, Bool.and_eq_true, Bool.or_eq_true, Bool.and_eq_false_iff, Bool.or_eq_false_iff, Bool.not_eq_true', Bool.not_eq_false', beq_iff_eq, beq_eq_false_iff_ne, Int.not_lt, Int.not_le] at h40
        have hj0 : j = 0 := by omega
        refine St.seq ?_
        refine St.rg ?_
        refine St.ev _ (Ev.assign (Opd.mk rfl)) rfl ?_
        refine St.nil ?_
        refine St.then_normal ?_
        refine St.exit ?_
        refine St.then_exit ?_
        refine St.in_hit ?_
        refine St.then_normal ?_
        refine St.rg ?_
        refine St.ev _ (Ev.add (Opd.mk rfl) (Opd.mk rfl) (by omega)) rfl ?_
        refine St.ev _ (Ev.move (Opd.mk rfl)) rfl ?_
        refine St.nil ?_
        refine St.then_normal ?_
        refine St.againH (i + 1, 0, r) ⟨by show i + 1 ≤ _; omega, hrl, near_skip hp hj hji hrv (by subst hj0; rfl), fun k _ _ => Nat.zero_le _⟩ (by first | omega | (dsimp only; omega)) (by repeat (first | exact Sub.nil | refine Sub.cons (by first | rfl | exact congrArg (fun z => some (iv z)) (by first | omega | (dsimp only; omega)) | exact congrArg (fun z => some (Value.bool z)) (by first | assumption | exact Eq.symm (by assumption))) ?_)) (fun _ hw => hw.sub)
      · skip
        try simp only [Bool.and_true, Bool.true_and, decide_eq_true_eq, decide_eq_false_iff_not, Bool.and_eq_true, Bool.or_eq_true, Bool.and_eq_false_iff, Bool.or_eq_false_iff, Bool.not_eq_true', Bool.not_eq_false', beq_iff_eq, beq_eq_false_iff_ne, Int.not_lt, Int.not_le] at h40
        have hk0 := perm_lt hp (show j - 1 < p.length by omega)
        have e1 : (ints l)[j - 1]? = some ((l.getD (j - 1) 0 : Nat) : Int) := by rw [some_getD 0 (show j - 1 < (ints l).length by omega), ints_getD]
        have hnj : near p l j = lcp p (l.getD (j - 1) 0) i := by unfold near; rw [if_neg (by omega), hji]
        have hh0 := hrn j hj hji
        rw [hnj] at hh0
        generalize l.getD (j - 1) 0 = k0 at hk0 e1 hnj hh0
        refine St.skip ?_
        refine St.then_normal ?_
        refine St.seq ?_
        refine St.rg ?_
        refine St.ev _ (Ev.move (Opd.mk rfl)) rfl ?_
        refine St.ev _ (Ev.move (Opd.mk rfl)) rfl ?_
        refine St.ev _ (Ev.move (Opd.mk rfl)) rfl ?_
        refine St.ev _ (Ev.idxaddrrow (k := i) (Opd.mk rfl) (Opd.mk rfl) Try.underlying22 sz3 (by omega) (by omega)) rfl ?_
        refine St.ev _ (Ev.ldrow (Opd.mk rfl) Try.underlying3 trivial (by omega) (rowI (by omega))) rfl ?_
        rw [hatj]
        refine St.ev _ (Ev.sub (Opd.mk rfl) (Opd.mk rfl) (by omega)) rfl ?_
        refine St.ev _ (Ev.idxaddr (k := (j - 1)) (Opd.mk rfl) (Opd.mk rfl) Try.underlying22 sz3 (by omega) (by omega)) rfl ?_
        refine St.ev _ (Ev.ld1 (Opd.mk rfl) e1 Try.underlying3 trivial rfl) rfl ?_
        refine St.ev _ (Ev.assign (Opd.mk rfl)) rfl ?_
        refine St.nil ?_
        refine St.then_normal ?_
        refine St.seq ?_
        refine St.block ?_
        refine St.loopS (ι := Nat) (fun m T => (10, iv m) :: T) (fun m => m ≤ lcp p k0 i) (fun m => p.length - m) h (Keep.cons 0 rfl (Keep.cons 1 rfl (Keep.cons 4 rfl (Keep.cons 5 rfl (Keep.cons 6 rfl (Keep.cons 9 rfl (Keep.cons 11 rfl (Keep.cons 12 rfl (Keep.cons 32 rfl (Keep.cons 33 rfl Keep.nil)))))))))) hh0 (by repeat (first | exact Sub.nil | refine Sub.cons (by first | rfl | exact congrArg (fun z => some (iv z)) (by first | omega | (dsimp only; omega)) | exact congrArg (fun z => some (Value.bool z)) (by first | assumption | exact Eq.symm (by assumption))) ?_)) ?_
        intro m hphi
        have hmle := lcp_le (p := p) (i := k0) (j := i)
        refine St.seq ?_
        refine St.seq ?_
        refine St.rq mixed (by kernel_rfl) (Mm.drawn _ _) ?_
        refine Sq.ev _ (Ev.move (Opd.mk rfl)) rfl ?_
        refine Sq.ev _ (Ev.move (Opd.mk rfl)) rfl ?_
        refine Sq.ev _ (Ev.add (Opd.mk rfl) (Opd.mk rfl) (by omega)) rfl ?_
        refine Sq.ev _ (Ev.move (Opd.mk rfl)) rfl ?_
        refine Sq.ev _ (Ev.lss (Opd.mk rfl) (Opd.mk rfl)) rfl ?_
        refine Sq.ev _ (Ev.move (Opd.mk rfl)) rfl ?_
        refine Sq.gt _ rfl rfl (fun hg => Ev.move (Opd.mk rfl)) rfl ?_
        refine Sq.gt _ rfl rfl (fun hg => Ev.move (Opd.mk rfl)) rfl ?_
        refine Sq.gt _ rfl rfl (fun hg => Ev.add (Opd.gv rfl hg) (Opd.gv rfl hg) (by first | omega | (simp only [Bool.and_true, Bool.true_and, decide_eq_true_eq, decide_eq_false_iff_not, Bool.and_eq_true, Bool.or_eq_true, Bool.and_eq_false_iff, Bool.or_eq_false_iff, Bool.not_eq_true', Bool.not_eq_false', beq_iff_eq, beq_eq_false_iff_ne, Int.not_lt, Int.not_le] at hg; omega))) rfl ?_
        refine Sq.gt _ rfl rfl (fun hg => Ev.move (Opd.mk rfl)) rfl ?_
        refine Sq.gt _ rfl rfl (fun hg => Ev.lss (Opd.gv rfl hg) (Opd.gv rfl hg)) rfl ?_
        refine Sq.ev _ (Ev.and (Opd.mk rfl) (fun hp => Opd.gv rfl hp)) rfl ?_
        refine Sq.ev _ (Ev.move (Opd.mk rfl)) rfl ?_
        refine Sq.gt _ rfl rfl (fun hg => Ev.move (Opd.mk rfl)) rfl ?_
        refine Sq.gt _ rfl rfl (fun hg => Ev.move (Opd.mk rfl)) rfl ?_
        refine Sq.gt _ rfl rfl (fun hg => Ev.move (Opd.mk rfl)) rfl ?_
        refine Sq.gt _ rfl rfl (fun hg => Ev.add (Opd.gv rfl hg) (Opd.gv rfl hg) (by first | omega | (simp only [Bool.and_true, Bool.true_and, decide_eq_true_eq, decide_eq_false_iff_not, Bool.and_eq_true, Bool.or_eq_true, Bool.and_eq_false_iff, Bool.or_eq_false_iff, Bool.not_eq_true', Bool.not_eq_false', beq_iff_eq, beq_eq_false_iff_ne, Int.not_lt, Int.not_le] at hg; omega))) rfl ?_
        refine Sq.gt _ rfl rfl (fun hg => Ev.idxaddr (k := (i + m)) (Opd.gv rfl hg) (Opd.gv rfl hg) Try.underlying22 sz3 (by first | omega | (simp only [Bool.and_true, Bool.true_and, decide_eq_true_eq, decide_eq_false_iff_not, Bool.and_eq_true, Bool.or_eq_true, Bool.and_eq_false_iff, Bool.or_eq_false_iff, Bool.not_eq_true', Bool.not_eq_false', beq_iff_eq, beq_eq_false_iff_ne, Int.not_lt, Int.not_le] at hg; omega)) (by first | omega | (simp only [Bool.and_true, Bool.true_and, decide_eq_true_eq, decide_eq_false_iff_not, Bool.and_eq_true, Bool.or_eq_true, Bool.and_eq_false_iff, Bool.or_eq_false_iff, Bool.not_eq_true', Bool.not_eq_false', beq_iff_eq, beq_eq_false_iff_ne, Int.not_lt, Int.not_le] at hg; omega))) rfl ?_
        refine Sq.gt _ rfl rfl (fun hg => Ev.ld1 (Opd.gv rfl hg) (some_getD 0 (by first | omega | (simp only [Bool.and_true, Bool.true_and, decide_eq_true_eq, decide_eq_false_iff_not, Bool.and_eq_true, Bool.or_eq_true, Bool.and_eq_false_iff, Bool.or_eq_false_iff, Bool.not_eq_true', Bool.not_eq_false', beq_iff_eq, beq_eq_false_iff_ne, Int.not_lt, Int.not_le] at hg; omega))) Try.underlying3 trivial rfl) rfl ?_
        refine Sq.gt _ rfl rfl (fun hg => Ev.move (Opd.mk rfl)) rfl ?_
        refine Sq.gt _ rfl rfl (fun hg => Ev.move (Opd.mk rfl)) rfl ?_
        refine Sq.gt _ rfl rfl (fun hg => Ev.move (Opd.mk rfl)) rfl ?_
        refine Sq.gt _ rfl rfl (fun hg => Ev.add (Opd.gv rfl hg) (Opd.gv rfl hg) (by first | omega | (simp only [Bool.and_true, Bool.true_and, decide_eq_true_eq, decide_eq_false_iff_not, Bool.and_eq_true, Bool.or_eq_true, Bool.and_eq_false_iff, Bool.or_eq_false_iff, Bool.not_eq_true', Bool.not_eq_false', beq_iff_eq, beq_eq_false_iff_ne, Int.not_lt, Int.not_le] at hg; omega))) rfl ?_
        refine Sq.gt _ rfl rfl (fun hg => Ev.idxaddr (k := (k0 + m)) (Opd.gv rfl hg) (Opd.gv rfl hg) Try.underlying22 sz3 (by first | omega | (simp only [Bool.and_true, Bool.true_and, decide_eq_true_eq, decide_eq_false_iff_not, Bool.and_eq_true, Bool.or_eq_true, Bool.and_eq_false_iff, Bool.or_eq_false_iff, Bool.not_eq_true', Bool.not_eq_false', beq_iff_eq, beq_eq_false_iff_ne, Int.not_lt, Int.not_le] at hg; omega)) (by first | omega | (simp only [Bool.and_true, Bool.true_and, decide_eq_true_eq, decide_eq_false_iff_not, Bool.and_eq_true, Bool.or_eq_true, Bool.and_eq_false_iff, Bool.or_eq_false_iff, Bool.not_eq_true', Bool.not_eq_false', beq_iff_eq, beq_eq_false_iff_ne, Int.not_lt, Int.not_le] at hg; omega))) rfl ?_
        refine Sq.gt _ rfl rfl (fun hg => Ev.ld1 (Opd.gv rfl hg) (some_getD 0 (by first | omega | (simp only [Bool.and_true, Bool.true_and, decide_eq_true_eq, decide_eq_false_iff_not, Bool.and_eq_true, Bool.or_eq_true, Bool.and_eq_false_iff, Bool.or_eq_false_iff, Bool.not_eq_true', Bool.not_eq_false', beq_iff_eq, beq_eq_false_iff_ne, Int.not_lt, Int.not_le] at hg; omega))) Try.underlying3 trivial rfl) rfl ?_
        refine Sq.gt _ rfl rfl (fun hg => Ev.eql (Opd.gv rfl hg) (Opd.gv rfl hg)) rfl ?_
        refine Sq.ev _ (Ev.and (Opd.mk rfl) (fun hp => Opd.gv rfl hp)) rfl ?_
        refine Sq.nil ?_
        refine St.then_normal ?_
        refine St.cond _ rfl (fun h75 => ?_) (fun h75 => ?_)
        · skip
          try simp only [Bool.and_true, Bool.true_and, decide_eq_true_eq, decide_eq_false_iff_not, Bool.and_eq_true, Bool.or_eq_true, Bool.and_eq_false_iff, Bool.or_eq_false_iff, Bool.not_eq_true', Bool.not_eq_false', beq_iff_eq, beq_eq_false_iff_ne, Int.not_lt, Int.not_le] at h75
          refine St.skip ?_
          refine St.then_normal ?_
          refine St.block ?_
          refine St.rg ?_
          refine St.ev _ (Ev.move (Opd.mk rfl)) rfl ?_
          refine St.ev _ (Ev.add (Opd.mk rfl) (Opd.mk rfl) (by omega)) rfl ?_
          refine St.ev _ (Ev.assign (Opd.mk rfl)) rfl ?_
          refine St.nil ?_
          refine St.in_normal ?_
          refine St.then_normal ?_
          refine St.againS (m + 1) (lcp_more hphi (by omega) (by omega) h75.2.symm) (by first | omega | (dsimp only; omega)) (by repeat (first | exact Sub.nil | refine Sub.cons (by first | rfl | exact congrArg (fun z => some (iv z)) (by first | omega | (dsimp only; omega)) | exact congrArg (fun z => some (Value.bool z)) (by first | assumption | exact Eq.symm (by assumption))) ?_)) (fun _ hw => hw.sub)
        · skip
          try simp only [Bool.and_true, Bool.true_and, decide_eq_true_eq, decide_eq_false_iff_not, Bool.and_eq_true, Bool.or_eq_true, Bool.and_eq_false_iff, Bool.or_eq_false_iff, Bool.not_eq_true', Bool.not_eq_false', beq_iff_eq, beq_eq_false_iff_ne, Int.not_lt, Int.not_le] at h75
          have hme := lcp_end hphi (by rintro ⟨q1, q2, q3⟩; rcases h75 with (q | q) | q; omega; omega; exact q q3.symm)
          rw [hme] at hnj
          have hml := near_le (p := p) (l := l) (k := j)
          refine St.exit ?_
          refine St.then_exit ?_
          refine St.then_exit ?_
          refine St.in_hit ?_
          refine St.then_normal ?_
          refine St.seq ?_
          refine St.rg ?_
          refine St.ev _ (Ev.move (Opd.mk rfl)) rfl ?_
          refine St.ev _ (Ev.move (Opd.mk rfl)) rfl ?_
          refine St.ev _ (Ev.move (Opd.mk rfl)) rfl ?_
          refine St.ev _ (Ev.idxaddrrow (k := i) (Opd.mk rfl) (Opd.mk rfl) Try.underlying22 sz3 (by omega) (by omega)) rfl ?_
          refine St.ev _ (Ev.ldrow (Opd.mk rfl) Try.underlying3 trivial (by omega) (rowI (by omega))) rfl ?_
          rw [hatj]
          refine St.ev _ (Ev.move (Opd.mk rfl)) rfl ?_
          refine St.ev _ (Ev.idxaddrrow (k := j) (Opd.mk rfl) (Opd.mk rfl) Try.underlying22 sz3 (by omega) (by omega)) rfl ?_
          refine St.storerow (Opd.mk rfl) (Opd.mk rfl) sz3 rfl (by omega) (by decide) ?_
          refine St.rowEq (.slice (some ⟨b30, 0, none⟩) p.length p.length) (rowI2_set _ _ _) ?_
          refine St.nil ?_
          refine St.then_normal ?_
          refine St.rg ?_
          refine St.ev _ (Ev.move (Opd.mk rfl)) rfl ?_
          refine St.ev _ (Ev.sub (Opd.mk rfl) (Opd.mk rfl) (by omega)) rfl ?_
          refine St.ev _ (Ev.maxI (Opd.mk rfl) (Opd.mk rfl)) rfl ?_
          refine St.ev _ (Ev.assign (Opd.mk rfl)) rfl ?_
          refine St.nil ?_
          refine St.in_normal ?_
          refine St.then_normal ?_
          refine St.rg ?_
          refine St.ev _ (Ev.add (Opd.mk rfl) (Opd.mk rfl) (by omega)) rfl ?_
          refine St.ev _ (Ev.move (Opd.mk rfl)) rfl ?_
          refine St.nil ?_
          refine St.then_normal ?_
          have hnn : ∀ k, k < p.length → l.getD k 0 = i + 1 → m - 1 ≤ near p l k := by
            intro k hk hk1
            have := near_next hs hj hk hji hk1 (by rw [← hk1]; exact perm_lt hp hk)
            omega
          refine St.againH (i + 1, m - 1, r.set j m) ⟨by show i + 1 ≤ _; omega, by simp [hrl], near_set hp hj hrl hji hrv hnj, hnn⟩ (by first | omega | (dsimp only; omega)) (by repeat (first | exact Sub.nil | refine Sub.cons (by first | rfl | exact congrArg (fun z => some (iv z)) (by first | omega | (dsimp only; omega)) | exact congrArg (fun z => some (Value.bool z)) (by first | assumption | exact Eq.symm (by assumption))) ?_)) (fun _ hw => hw.sub)
    · skip
      try simp only [Bool.and_true, Bool.true_and, decide_eq_true_eq, decide_eq_false_iff_not, Bool.and_eq_true, Bool.or_eq_true, Bool.and_eq_false_iff, Bool.or_eq_false_iff, Bool.not_eq_true', Bool.not_eq_false', beq_iff_eq, beq_eq_false_iff_ne, Int.not_lt, Int.not_le] at h34
      obtain rfl : i = p.length := by omega
      have hra := near_all hp hrl hrv
      refine St.exit ?_
      refine St.then_exit ?_
      refine St.then_exit ?_
      refine St.in_hit ?_
      refine St.then_normal ?_
      refine St.seq ?_
      refine St.rg ?_
      refine St.ev _ (Ev.move (Opd.mk rfl)) rfl ?_
      refine St.ev _ (Ev.assign (Opd.mk rfl)) rfl ?_
      refine St.nil ?_
      refine St.then_normal ?_
      refine St.rett ?_
      rw [hra]
      refine St.rets [_] [row (.slice (some ⟨b30, 0, none⟩) p.length p.length) 3 1 p.length (rows intR (ints (nears p l)))] Try.results36 ⟨rfl, trivial⟩ ?_ (fun _ hw => hw.sub)
      exact ⟨rfl, rfl⟩

end Go.Proofs.Ytblmnncmkibhnaa
