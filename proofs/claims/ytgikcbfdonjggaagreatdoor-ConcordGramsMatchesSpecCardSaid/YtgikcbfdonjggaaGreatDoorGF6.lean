/-
  Several texts in one: YtgikcbfdonjggaaGreatDoorG3, YtgikcbfdonjggaaGreatDoorG4, YtgikcbfdonjggaaGreatDoorGrP, YtgikcbfdonjggaaGreatDoorGrQ, YtgikcbfdonjggaaGreatDoorGrR, YtgikcbfdonjggaaGreatDoorG5, YtgikcbfdonjggaaGreatDoorG6, YtgikcbfdonjggaaGreatDoorG7.
  Conditions: none.
-/
import Derived.Test.YtgikcbfdonjggaaGreatDoorGF5
import Derived.Test.YtgikcbfdonjggaaGreatDoorGF2
import Derived.Test.YtgikcbfdonjggaaGreatDoorGF4
import Derived.Test.YtgikcbfdonjggaaGreatDoorGF3
/-
  (YtgikcbfdonjggaaGreatDoorG3)
  The library's merging in place, at grams.
  Conditions: few elements.
-/
set_option maxRecDepth 20000
set_option linter.unusedSimpArgs false
set_option linter.unusedVariables false
namespace Go.Proofs.YtgikcbfdonjggaaGreatDoor
open Go Go.J

theorem front_zero {α : Type} (l : List α) (a p : Nat) : rotI l a (a + 1) (a + 1) p = l[p]? := by
  unfold rotI
  repeat' split
  all_goals first | omega | rfl | (congr 1; omega)
theorem front_step {α : Type} {l L : List α} {a k : Nat} {x y : α} (hak : a ≤ k) (h : ∀ p, L[p]? = rotI l a (a + 1) (k + 1) p) (hx : L[k]? = some x) (hy : L[k + 1]? = some y) (p : Nat) : ((L.set k y).set (k + 1) x)[p]? = rotI l a (a + 1) (k + 1 + 1) p := by
  have ex : l[a]? = some x := by
    have := h k; rw [hx] at this; unfold rotI at this; rw [if_neg (by omega), if_pos (by omega), show k - (k + 1 - (a + 1)) = a by omega] at this; exact this.symm
  have ey : l[k + 1]? = some y := by
    have := h (k + 1); rw [hy, rot_same (.inr (by omega)) (by omega) (by omega)] at this; exact this.symm
  rw [get_swap hx hy, h p]
  by_cases e1 : p = k + 1
  · subst e1; rw [if_pos rfl]; unfold rotI; rw [if_neg (by omega), if_pos (by omega), show k + 1 - (k + 1 + 1 - (a + 1)) = a by omega, ex]
  · rw [if_neg e1]
    by_cases e2 : p = k
    · subst e2; rw [if_pos rfl]; unfold rotI; rw [if_pos (by omega), show p + (a + 1 - a) = p + 1 by omega, ey]
    · rw [if_neg e2]
      unfold rotI
      repeat' split
      all_goals first | omega | rfl | (congr 1; omega)
theorem back_zero {α : Type} (l : List α) (m p : Nat) : rotI l m m (m + 1) p = l[p]? := by
  unfold rotI
  repeat' split
  all_goals first | omega | rfl | (congr 1; omega)
theorem back_step {α : Type} {l L : List α} {k m : Nat} {x y : α} (hk : 0 < k) (hkm : k ≤ m) (h : ∀ p, L[p]? = rotI l k m (m + 1) p) (hx : L[k]? = some x) (hy : L[k - 1]? = some y) (p : Nat) : ((L.set k y).set (k - 1) x)[p]? = rotI l (k - 1) m (m + 1) p := by
  have ex : l[m]? = some x := by
    have := h k; rw [hx] at this; unfold rotI at this; rw [if_pos (by omega), show k + (m - k) = m by omega] at this; exact this.symm
  have ey : l[k - 1]? = some y := by
    have := h (k - 1); rw [hy, rot_same (.inl (by omega)) (by omega) (by omega)] at this; exact this.symm
  rw [get_swap hx hy, h p]
  by_cases e1 : p = k - 1
  · subst e1; rw [if_pos rfl]; unfold rotI; rw [if_pos (by omega), show k - 1 + (m - (k - 1)) = m by omega, ex]
  · rw [if_neg e1]
    by_cases e2 : p = k
    · subst e2; rw [if_pos rfl]; unfold rotI; rw [if_neg (by omega), if_pos (by omega), show p - (m + 1 - m) = p - 1 by omega, ey]
    · rw [if_neg e2]
      unfold rotI
      repeat' split
      all_goals first | omega | rfl | (congr 1; omega)
theorem rot_triv {α : Type} {l : List α} {s m e : Nat} (h : s = m ∨ e = m) (h1 : s ≤ m) (h2 : m ≤ e) (p : Nat) : rotI l s m e p = l[p]? := by
  unfold rotI
  repeat' split
  all_goals first | omega | rfl | (congr 1; omega)
/-- merging in place, at segments of this length -/
def SymOK (D : List (Gm Str)) (v : Value) (M N : Nat) : Prop := ∀ (a m b : Nat) (l : List (Gm Str)), b - a = N → l.length = M → M ≤ 1000000 → (∀ x ∈ l, x ∈ D) → a < m → m < b → b ≤ M → SegS leG l a m → SegS leG l m b →
  FnH Tryz.prog 87 #[v, iv (a : Nat), iv (m : Nat), iv (b : Nat), .func (.func 39) #[] #[]] [row v 58 2 M (rows (gR Str) l), dat (gall strR D)] (fun u H' => ∃ l', u = .tuple #[] ∧ SegP l l' a b ∧ SegS leG l' a b ∧ H' = [row v 58 2 M (rows (gR Str) l'), dat (gall strR D)])

set_option maxHeartbeats 2000000 in
theorem symMerge_step (D : List (Gm Str)) (v : Value) (M N : Nat) (ih : ∀ n, n < N → SymOK D v M n) : SymOK D v M N := by
  intro a m b l hN hlen hM hD ham hmb hb hA hB
  refine FnH.body (args := [v, iv (a : Nat), iv (m : Nat), iv (b : Nat), .func (.func 39) #[] #[]]) 220 Tryz.func87 rfl Tryz.ntmps87 rfl (fun c => ?_)
  refine St.seq ?_
  refine St.seq ?_
  refine St.rg ?_
  refine St.ev _ (Ev.move (Opd.mk rfl)) rfl ?_
  refine St.ev _ (Ev.move (Opd.mk rfl)) rfl ?_
  refine St.ev _ (Ev.sub (Opd.mk rfl) (Opd.mk rfl) (by omega)) rfl ?_
  refine St.ev _ (Ev.eql (Opd.mk rfl) (Opd.mk rfl)) rfl ?_
  refine St.nil ?_
  refine St.then_normal ?_
  refine St.cond _ rfl (fun h28 => ?_) (fun h28 => ?_)
  · skip
    try simp only [Bool.and_true, Bool.true_and, decide_eq_true_eq, decide_eq_false_iff_not, Bool.and_eq_true, Bool.or_eq_true, Bool.and_eq_false_iff, Bool.or_eq_false_iff, Bool.not_eq_true', Bool.not_eq_false', beq_iff_eq, beq_eq_false_iff_ne, Int.not_lt, Int.not_le] at h28
    obtain rfl : m = a + 1 := by omega
    refine St.seq ?_
    refine St.rg ?_
    refine St.ev _ (Ev.move (Opd.mk rfl)) rfl ?_
    refine St.ev _ (Ev.assign (Opd.mk rfl)) rfl ?_
    refine St.nil ?_
    refine St.then_normal ?_
    refine St.seq ?_
    refine St.rg ?_
    refine St.ev _ (Ev.move (Opd.mk rfl)) rfl ?_
    refine St.ev _ (Ev.assign (Opd.mk rfl)) rfl ?_
    refine St.nil ?_
    refine St.then_normal ?_
    refine St.seq ?_
    refine St.block ?_
    refine St.loopS (ι := Nat × Nat) (fun x T => (10, iv x.1) :: (11, iv x.2) :: T) (fun x => a + 1 ≤ x.1 ∧ x.1 ≤ x.2 ∧ x.2 ≤ b ∧ (x.1 = a + 1 ∨ ∀ u w, l[x.1 - 1]? = some u → l[a]? = some w → leG u w) ∧ (x.2 = b ∨ ∀ u w, l[a]? = some u → l[x.2]? = some w → leG u w)) (fun x => x.2 - x.1) (a + 1, b) (Keep.cons 0 rfl (Keep.cons 1 rfl (Keep.cons 2 rfl (Keep.cons 3 rfl (Keep.cons 4 rfl Keep.nil))))) ⟨Nat.le_refl _, by show a + 1 ≤ b; omega, Nat.le_refl _, .inl rfl, .inl rfl⟩ (by repeat (first | exact Sub.nil | refine Sub.cons (by first | rfl | exact congrArg (fun z => some (iv z)) (by first | omega | (dsimp only; omega)) | exact congrArg (fun z => some (Value.bool z)) (by first | assumption | exact Eq.symm (by assumption))) ?_)) ?_
    rintro ⟨i, j⟩ ⟨hk1, hk2, hk3, hc2, hc1⟩
    dsimp only at hk1 hk2 hk3 hc1 hc2 ⊢
    refine St.seq ?_
    refine St.seq ?_
    refine St.rg ?_
    refine St.ev _ (Ev.move (Opd.mk rfl)) rfl ?_
    refine St.ev _ (Ev.move (Opd.mk rfl)) rfl ?_
    refine St.ev _ (Ev.lss (Opd.mk rfl) (Opd.mk rfl)) rfl ?_
    refine St.nil ?_
    refine St.then_normal ?_
    refine St.cond _ rfl (fun h33 => ?_) (fun h33 => ?_)
    · skip
      try simp only [Bool.and_true, Bool.true_and, decide_eq_true_eq, decide_eq_false_iff_not, Bool.and_eq_true, Bool.or_eq_true, Bool.and_eq_false_iff, Bool.or_eq_false_iff, Bool.not_eq_true', Bool.not_eq_false', beq_iff_eq, beq_eq_false_iff_ne, Int.not_lt, Int.not_le] at h33
      have hm1 : i ≤ (i + j) / 2 := by omega
      have hm2 : (i + j) / 2 < j := by omega
      obtain ⟨x, hx⟩ := some_of_lt (show (i + j) / 2 < l.length by omega)
      obtain ⟨y, hy⟩ := some_of_lt (show a < l.length by omega)
      have hxD := hD x (List.mem_of_getElem? hx)
      have hyD := hD y (List.mem_of_getElem? hy)
      refine St.gget (Rr := strR) (D := D) x y hxD hyD ?_
      refine St.skip ?_
      refine St.then_normal ?_
      refine St.block ?_
      refine St.seq ?_
      refine St.rg ?_
      refine St.ev _ (Ev.move (Opd.mk rfl)) rfl ?_
      refine St.ev _ (Ev.move (Opd.mk rfl)) rfl ?_
      refine St.ev _ (Ev.add (Opd.mk rfl) (Opd.mk rfl) (by omega)) rfl ?_
      refine St.ev _ (Ev.convIN ((i + j)) (Opd.mk rfl) (by rw [Tryz.underlying3]; rfl) Tryz.underlying80 (by omega)) rfl ?_
      refine St.ev _ (Ev.shrU 1 2 (by decide) (Opd.mk rfl) (Opd.mk rfl) (by decide)) rfl ?_
      refine St.ev _ (Ev.convUI (Opd.mk rfl) (by rw [Tryz.underlying80]; rfl) Tryz.underlying3 (by omega)) rfl ?_
      refine St.ev _ (Ev.assign (Opd.mk rfl)) rfl ?_
      refine St.nil ?_
      refine St.then_normal ?_
      refine St.seq ?_
      refine St.rq mixed (by kernel_rfl) (Mm.drawn _ _) ?_
      refine Sq.ev _ (Ev.move (Opd.mk rfl)) rfl ?_
      refine Sq.ev _ (Ev.move (Opd.mk rfl)) rfl ?_
      refine Sq.ev _ (Ev.move (Opd.mk rfl)) rfl ?_
      refine Sq.ev _ (Ev.idxaddrrow (k := ((i + j) / 2)) (Opd.mk rfl) (Opd.mk rfl) Tryz.underlying54 sz58 (by omega) (by omega)) rfl ?_
      refine Sq.ev _ (Ev.ldG (Opd.mk rfl) hx Tryz.underlying58 trivial sz58 (by omega)) rfl ?_
      refine Sq.ev _ (Ev.move (Opd.mk rfl)) rfl ?_
      refine Sq.ev _ (Ev.move (Opd.mk rfl)) rfl ?_
      refine Sq.ev _ (Ev.idxaddrrow (k := a) (Opd.mk rfl) (Opd.mk rfl) Tryz.underlying54 sz58 (by omega) (by omega)) rfl ?_
      refine Sq.ev _ (Ev.ldG (Opd.mk rfl) hy Tryz.underlying58 trivial sz58 (by omega)) rfl ?_
      refine Sq.ev _ (Ev.callc (Gm_clo x y) cb39 (Opd.mk rfl) (Opds.cons (Opd.mk rfl) (Opds.cons (Opd.mk rfl) Opds.nil))) rfl ?_
      refine Sq.ev _ (Ev.lss (Opd.mk rfl) (Opd.mk rfl)) rfl ?_
      refine Sq.nil ?_
      refine St.then_normal ?_
      refine St.cond _ rfl (fun h50 => ?_) (fun h50 => ?_)
      · skip
        try simp only [Bool.and_true, Bool.true_and, decide_eq_true_eq, decide_eq_false_iff_not, Bool.and_eq_true, Bool.or_eq_true, Bool.and_eq_false_iff, Bool.or_eq_false_iff, Bool.not_eq_true', Bool.not_eq_false', beq_iff_eq, beq_eq_false_iff_ne, Int.not_lt, Int.not_le] at h50
        refine St.rg ?_
        refine St.ev _ (Ev.move (Opd.mk rfl)) rfl ?_
        refine St.ev _ (Ev.add (Opd.mk rfl) (Opd.mk rfl) (by omega)) rfl ?_
        refine St.ev _ (Ev.assign (Opd.mk rfl)) rfl ?_
        refine St.nil ?_
        refine St.in_normal ?_
        refine St.then_normal ?_
        refine St.againS ((i + j) / 2 + 1, j) ⟨by show a + 1 ≤ (i + j) / 2 + 1; omega, by show (i + j) / 2 + 1 ≤ j; omega, hk3, .inr (fun u w hu hw => by rw [show (i + j) / 2 + 1 - 1 = (i + j) / 2 by omega, hx] at hu; rw [hy] at hw; cases hu; cases hw; exact leG_of_lt h50), hc1⟩ (by show j - ((i + j) / 2 + 1) < j - i; omega) (by repeat (first | exact Sub.nil | refine Sub.cons (by first | rfl | exact congrArg (fun z => some (iv z)) (by first | omega | (dsimp only; omega)) | exact congrArg (fun z => some (Value.bool z)) (by first | assumption | exact Eq.symm (by assumption))) ?_)) (fun _ hw => hw.sub)
      · skip
        try simp only [Bool.and_true, Bool.true_and, decide_eq_true_eq, decide_eq_false_iff_not, Bool.and_eq_true, Bool.or_eq_true, Bool.and_eq_false_iff, Bool.or_eq_false_iff, Bool.not_eq_true', Bool.not_eq_false', beq_iff_eq, beq_eq_false_iff_ne, Int.not_lt, Int.not_le] at h50
        refine St.rg ?_
        refine St.ev _ (Ev.move (Opd.mk rfl)) rfl ?_
        refine St.ev _ (Ev.assign (Opd.mk rfl)) rfl ?_
        refine St.nil ?_
        refine St.in_normal ?_
        refine St.then_normal ?_
        refine St.againS (i, (i + j) / 2) ⟨hk1, hm1, by show (i + j) / 2 ≤ b; omega, hc2, .inr (fun u w hu hw => by rw [hy] at hu; rw [hx] at hw; cases hu; cases hw; unfold leG; omega)⟩ (by show (i + j) / 2 - i < j - i; omega) (by repeat (first | exact Sub.nil | refine Sub.cons (by first | rfl | exact congrArg (fun z => some (iv z)) (by first | omega | (dsimp only; omega)) | exact congrArg (fun z => some (Value.bool z)) (by first | assumption | exact Eq.symm (by assumption))) ?_)) (fun _ hw => hw.sub)
    · skip
      try simp only [Bool.and_true, Bool.true_and, decide_eq_true_eq, decide_eq_false_iff_not, Bool.and_eq_true, Bool.or_eq_true, Bool.and_eq_false_iff, Bool.or_eq_false_iff, Bool.not_eq_true', Bool.not_eq_false', beq_iff_eq, beq_eq_false_iff_ne, Int.not_lt, Int.not_le] at h33
      obtain rfl : i = j := by omega
      refine St.exit ?_
      refine St.then_exit ?_
      refine St.then_exit ?_
      refine St.in_hit ?_
      refine St.then_normal ?_
      refine St.seq ?_
      refine St.seq ?_
      refine St.rg ?_
      refine St.ev _ (Ev.move (Opd.mk rfl)) rfl ?_
      refine St.ev _ (Ev.assign (Opd.mk rfl)) rfl ?_
      refine St.nil ?_
      refine St.then_normal ?_
      refine St.block ?_
      refine St.loopH2 (ι := Nat) (κ := List (Gm Str)) (fun k L T => (13, iv k) :: T) (fun k L => [row v 58 2 M (rows (gR Str) L), dat (gall strR D)]) (fun k L => a ≤ k ∧ k + 1 ≤ i ∧ SegP l L a b ∧ ∀ p, L[p]? = rotI l a (a + 1) (k + 1) p) (fun k L => i - k) a l (Keep.cons 0 rfl (Keep.cons 1 rfl (Keep.cons 2 rfl (Keep.cons 3 rfl (Keep.cons 4 rfl (Keep.cons 10 rfl Keep.nil)))))) ⟨Nat.le_refl _, hk1, .refl .., fun p => (front_zero ..).symm⟩ (by repeat (first | exact Sub.nil | refine Sub.cons (by first | rfl | exact congrArg (fun z => some (iv z)) (by first | omega | (dsimp only; omega)) | exact congrArg (fun z => some (Value.bool z)) (by first | assumption | exact Eq.symm (by assumption))) ?_)) (fun _ hw => hw.sub) ?_
      rintro k L ⟨hak, hki, hsp, hrt⟩
      have hll := hsp.len
      refine St.seq ?_
      refine St.seq ?_
      refine St.rg ?_
      refine St.ev _ (Ev.move (Opd.mk rfl)) rfl ?_
      refine St.ev _ (Ev.move (Opd.mk rfl)) rfl ?_
      refine St.ev _ (Ev.sub (Opd.mk rfl) (Opd.mk rfl) (by omega)) rfl ?_
      refine St.ev _ (Ev.lss (Opd.mk rfl) (Opd.mk rfl)) rfl ?_
      refine St.nil ?_
      refine St.then_normal ?_
      refine St.cond _ rfl (fun h58 => ?_) (fun h58 => ?_)
      · skip
        try simp only [Bool.and_true, Bool.true_and, decide_eq_true_eq, decide_eq_false_iff_not, Bool.and_eq_true, Bool.or_eq_true, Bool.and_eq_false_iff, Bool.or_eq_false_iff, Bool.not_eq_true', Bool.not_eq_false', beq_iff_eq, beq_eq_false_iff_ne, Int.not_lt, Int.not_le] at h58
        obtain ⟨x, hx⟩ := some_of_lt (show k < L.length by omega)
        obtain ⟨y, hy⟩ := some_of_lt (show k + 1 < L.length by omega)
        refine St.rowShape v (by omega) (fun bs cs hsh => ?_)
        refine St.skip ?_
        refine St.then_normal ?_
        refine St.seq ?_
        refine St.block ?_
        refine St.parL [row v 58 2 M (rows (gR Str) L)] mixed ?_
        refine SW.defer 0 (by repeat (first | refine NP.then ?_ | refine NP.inBlock ?_ | exact NP.body)) (by kernel_rfl) rfl (fun R => Ev.move (Opd.mk rfl)) (by kernel_rfl) rfl ?_
        refine SW.defer 1 (by repeat (first | refine NP.then ?_ | refine NP.inBlock ?_ | exact NP.body)) (by kernel_rfl) rfl (fun R => Ev.move (Opd.mk rfl)) (by kernel_rfl) rfl ?_
        refine SW.defer 2 (by repeat (first | refine NP.then ?_ | refine NP.inBlock ?_ | exact NP.body)) (by kernel_rfl) rfl (fun R => Ev.move (Opd.mk rfl)) (by kernel_rfl) rfl ?_
        refine SW.defer 3 (by repeat (first | refine NP.then ?_ | refine NP.inBlock ?_ | exact NP.body)) (by kernel_rfl) rfl (fun R => Ev.move (Opd.mk rfl)) (by kernel_rfl) rfl ?_
        refine SW.defer 4 (by repeat (first | refine NP.then ?_ | refine NP.inBlock ?_ | exact NP.body)) (by kernel_rfl) rfl (fun R => Ev.add (Opd.mk rfl) (Opd.mk rfl) (by omega)) (by kernel_rfl) rfl ?_
        refine SW.defer 5 (by repeat (first | refine NP.then ?_ | refine NP.inBlock ?_ | exact NP.body)) (by kernel_rfl) rfl (fun R => Ev.move (Opd.mk rfl)) (by kernel_rfl) rfl ?_
        refine SW.defer 6 (by repeat (first | refine NP.then ?_ | refine NP.inBlock ?_ | exact NP.body)) (by kernel_rfl) rfl (fun R => Ev.move (Opd.mk rfl)) (by kernel_rfl) rfl ?_
        refine SW.defer 7 (by repeat (first | refine NP.then ?_ | refine NP.inBlock ?_ | exact NP.body)) (by kernel_rfl) rfl (fun R => Ev.add (Opd.mk rfl) (Opd.mk rfl) (by omega)) (by kernel_rfl) rfl ?_
        refine SW.defer 8 (by repeat (first | refine NP.then ?_ | refine NP.inBlock ?_ | exact NP.body)) (by kernel_rfl) rfl (fun R => Ev.idxv (k := (k + 1)) hsh (Opd.mk rfl) (Opd.mk rfl) Tryz.underlying54 sz58 (by omega) (by omega)) (by kernel_rfl) rfl ?_
        refine SW.defer 10 (by repeat (first | refine NP.then ?_ | refine NP.inBlock ?_ | exact NP.body)) (by kernel_rfl) rfl (fun R => Ev.move (Opd.mk rfl)) (by kernel_rfl) rfl ?_
        refine SW.defer 11 (by repeat (first | refine NP.then ?_ | refine NP.inBlock ?_ | exact NP.body)) (by kernel_rfl) rfl (fun R => Ev.move (Opd.mk rfl)) (by kernel_rfl) rfl ?_
        refine SW.defer 12 (by repeat (first | refine NP.then ?_ | refine NP.inBlock ?_ | exact NP.body)) (by kernel_rfl) rfl (fun R => Ev.idxv (k := k) hsh (Opd.mk rfl) (Opd.mk rfl) Tryz.underlying54 sz58 (by omega) (by omega)) (by kernel_rfl) rfl ?_
        refine SW.turn2 (i := 9) (j := 13) (by kernel_rfl) rfl rfl ?_ ?_
        · skip
          refine St.ev _ (Ev.ldG (Opd.mk rfl) hy Tryz.underlying58 trivial sz58 (by omega)) rfl ?_
          refine St.nil ?_
          refine St.then_normal ?_
          refine SW.go ?_
          refine SW.turn1 (i := 13) (by kernel_rfl) rfl ?_
          refine St.ev _ (Ev.ldG (Opd.mk rfl) hx Tryz.underlying58 trivial sz58 (by omega)) rfl ?_
          refine St.nil ?_
          refine St.then_normal ?_
          refine SW.go ?_
          refine SW.defer 14 (by repeat (first | refine NP.then ?_ | refine NP.inBlock ?_ | exact NP.body)) (by kernel_rfl) rfl (fun R => Ev.idxv (k := k) hsh (Opd.mk rfl) (Opd.mk rfl) Tryz.underlying54 sz58 (by omega) (by omega)) (by kernel_rfl) rfl ?_
          refine SW.turn1 (i := 15) (by kernel_rfl) rfl ?_
          refine St.storeG (Opd.mk rfl) (Opd.mk rfl) sz58 (by omega) ?_
          refine St.nil ?_
          refine St.then_normal ?_
          refine SW.go ?_
          refine SW.defer 16 (by repeat (first | refine NP.then ?_ | refine NP.inBlock ?_ | exact NP.body)) (by kernel_rfl) rfl (fun R => Ev.idxv (k := (k + 1)) hsh (Opd.mk rfl) (Opd.mk rfl) Tryz.underlying54 sz58 (by omega) (by omega)) (by kernel_rfl) rfl ?_
          refine SW.turn1 (i := 17) (by kernel_rfl) rfl ?_
          refine St.storeG (Opd.mk rfl) (Opd.mk rfl) sz58 (by omega) ?_
          refine St.nil ?_
          refine St.then_normal ?_
          refine SW.go ?_
          refine SW.done (by kernel_rfl) ?_
          refine St.in_normal ?_
          refine St.then_normal ?_
          refine St.rg ?_
          refine St.ev _ (Ev.move (Opd.mk rfl)) rfl ?_
          refine St.ev _ (Ev.add (Opd.mk rfl) (Opd.mk rfl) (by omega)) rfl ?_
          refine St.ev _ (Ev.assign (Opd.mk rfl)) rfl ?_
          refine St.nil ?_
          refine St.then_normal ?_
          refine St.againH2 (k + 1) ((L.set k y).set (k + 1) x) ⟨by omega, by omega, segp_swap hsp hx hy (by omega) (by omega) (by omega) (by omega), front_step hak hrt hx hy⟩ (by omega) (by repeat (first | exact Sub.nil | refine Sub.cons (by first | rfl | exact congrArg (fun z => some (iv z)) (by first | omega | (dsimp only; omega)) | exact congrArg (fun z => some (Value.bool z)) (by first | assumption | exact Eq.symm (by assumption))) ?_)) (fun _ hw => hw.sub)
        · skip
          refine St.ev _ (Ev.ldG (Opd.mk rfl) hx Tryz.underlying58 trivial sz58 (by omega)) rfl ?_
          refine St.nil ?_
          refine St.then_normal ?_
          refine SW.go ?_
          refine SW.turn1 (i := 9) (by kernel_rfl) rfl ?_
          refine St.ev _ (Ev.ldG (Opd.mk rfl) hy Tryz.underlying58 trivial sz58 (by omega)) rfl ?_
          refine St.nil ?_
          refine St.then_normal ?_
          refine SW.go ?_
          refine SW.defer 14 (by repeat (first | refine NP.then ?_ | refine NP.inBlock ?_ | exact NP.body)) (by kernel_rfl) rfl (fun R => Ev.idxv (k := k) hsh (Opd.mk rfl) (Opd.mk rfl) Tryz.underlying54 sz58 (by omega) (by omega)) (by kernel_rfl) rfl ?_
          refine SW.turn1 (i := 15) (by kernel_rfl) rfl ?_
          refine St.storeG (Opd.mk rfl) (Opd.mk rfl) sz58 (by omega) ?_
          refine St.nil ?_
          refine St.then_normal ?_
          refine SW.go ?_
          refine SW.defer 16 (by repeat (first | refine NP.then ?_ | refine NP.inBlock ?_ | exact NP.body)) (by kernel_rfl) rfl (fun R => Ev.idxv (k := (k + 1)) hsh (Opd.mk rfl) (Opd.mk rfl) Tryz.underlying54 sz58 (by omega) (by omega)) (by kernel_rfl) rfl ?_
          refine SW.turn1 (i := 17) (by kernel_rfl) rfl ?_
          refine St.storeG (Opd.mk rfl) (Opd.mk rfl) sz58 (by omega) ?_
          refine St.nil ?_
          refine St.then_normal ?_
          refine SW.go ?_
          refine SW.done (by kernel_rfl) ?_
          refine St.in_normal ?_
          refine St.then_normal ?_
          refine St.rg ?_
          refine St.ev _ (Ev.move (Opd.mk rfl)) rfl ?_
          refine St.ev _ (Ev.add (Opd.mk rfl) (Opd.mk rfl) (by omega)) rfl ?_
          refine St.ev _ (Ev.assign (Opd.mk rfl)) rfl ?_
          refine St.nil ?_
          refine St.then_normal ?_
          refine St.againH2 (k + 1) ((L.set k y).set (k + 1) x) ⟨by omega, by omega, segp_swap hsp hx hy (by omega) (by omega) (by omega) (by omega), front_step hak hrt hx hy⟩ (by omega) (by repeat (first | exact Sub.nil | refine Sub.cons (by first | rfl | exact congrArg (fun z => some (iv z)) (by first | omega | (dsimp only; omega)) | exact congrArg (fun z => some (Value.bool z)) (by first | assumption | exact Eq.symm (by assumption))) ?_)) (fun _ hw => hw.sub)
      · skip
        try simp only [Bool.and_true, Bool.true_and, decide_eq_true_eq, decide_eq_false_iff_not, Bool.and_eq_true, Bool.or_eq_true, Bool.and_eq_false_iff, Bool.or_eq_false_iff, Bool.not_eq_true', Bool.not_eq_false', beq_iff_eq, beq_eq_false_iff_ne, Int.not_lt, Int.not_le] at h58
        obtain rfl : i = k + 1 := by omega
        refine St.exit ?_
        refine St.then_exit ?_
        refine St.then_exit ?_
        refine St.in_hit ?_
        refine St.then_normal ?_
        refine St.rett ?_
        refine St.then_ret ?_
        refine St.rets [] [row v 58 2 M (rows (gR Str) L), dat (gall strR D)] Tryz.results87 trivial ?_ (fun _ hw => hw.sub)
        exact ⟨L, rfl, hsp, merge_front leG_trans hB (by omega) (by omega) hrt hc1 hc2 (by omega), rfl⟩
  · skip
    try simp only [Bool.and_true, Bool.true_and, decide_eq_true_eq, decide_eq_false_iff_not, Bool.and_eq_true, Bool.or_eq_true, Bool.and_eq_false_iff, Bool.or_eq_false_iff, Bool.not_eq_true', Bool.not_eq_false', beq_iff_eq, beq_eq_false_iff_ne, Int.not_lt, Int.not_le] at h28
    refine St.skip ?_
    refine St.then_normal ?_
    refine St.seq ?_
    refine St.seq ?_
    refine St.rg ?_
    refine St.ev _ (Ev.move (Opd.mk rfl)) rfl ?_
    refine St.ev _ (Ev.move (Opd.mk rfl)) rfl ?_
    refine St.ev _ (Ev.sub (Opd.mk rfl) (Opd.mk rfl) (by omega)) rfl ?_
    refine St.ev _ (Ev.eql (Opd.mk rfl) (Opd.mk rfl)) rfl ?_
    refine St.nil ?_
    refine St.then_normal ?_
    refine St.cond _ rfl (fun h80 => ?_) (fun h80 => ?_)
    · skip
      try simp only [Bool.and_true, Bool.true_and, decide_eq_true_eq, decide_eq_false_iff_not, Bool.and_eq_true, Bool.or_eq_true, Bool.and_eq_false_iff, Bool.or_eq_false_iff, Bool.not_eq_true', Bool.not_eq_false', beq_iff_eq, beq_eq_false_iff_ne, Int.not_lt, Int.not_le] at h80
      obtain rfl : b = m + 1 := by omega
      refine St.seq ?_
      refine St.rg ?_
      refine St.ev _ (Ev.move (Opd.mk rfl)) rfl ?_
      refine St.ev _ (Ev.assign (Opd.mk rfl)) rfl ?_
      refine St.nil ?_
      refine St.then_normal ?_
      refine St.seq ?_
      refine St.rg ?_
      refine St.ev _ (Ev.move (Opd.mk rfl)) rfl ?_
      refine St.ev _ (Ev.assign (Opd.mk rfl)) rfl ?_
      refine St.nil ?_
      refine St.then_normal ?_
      refine St.seq ?_
      refine St.block ?_
      refine St.loopS (ι := Nat × Nat) (fun x T => (14, iv x.1) :: (15, iv x.2) :: T) (fun x => a ≤ x.1 ∧ x.1 ≤ x.2 ∧ x.2 ≤ m ∧ (x.1 = a ∨ ∀ u w, l[x.1 - 1]? = some u → l[m]? = some w → leG u w) ∧ (x.2 = m ∨ ∀ u w, l[m]? = some u → l[x.2]? = some w → leG u w)) (fun x => x.2 - x.1) (a, m) (Keep.cons 0 rfl (Keep.cons 1 rfl (Keep.cons 2 rfl (Keep.cons 3 rfl (Keep.cons 4 rfl Keep.nil))))) ⟨Nat.le_refl _, by show a ≤ m; omega, Nat.le_refl _, .inl rfl, .inl rfl⟩ (by repeat (first | exact Sub.nil | refine Sub.cons (by first | rfl | exact congrArg (fun z => some (iv z)) (by first | omega | (dsimp only; omega)) | exact congrArg (fun z => some (Value.bool z)) (by first | assumption | exact Eq.symm (by assumption))) ?_)) ?_
      rintro ⟨i, j⟩ ⟨hk1, hk2, hk3, hc1, hc2⟩
      dsimp only at hk1 hk2 hk3 hc1 hc2 ⊢
      refine St.seq ?_
      refine St.seq ?_
      refine St.rg ?_
      refine St.ev _ (Ev.move (Opd.mk rfl)) rfl ?_
      refine St.ev _ (Ev.move (Opd.mk rfl)) rfl ?_
      refine St.ev _ (Ev.lss (Opd.mk rfl) (Opd.mk rfl)) rfl ?_
      refine St.nil ?_
      refine St.then_normal ?_
      refine St.cond _ rfl (fun h85 => ?_) (fun h85 => ?_)
      · skip
        try simp only [Bool.and_true, Bool.true_and, decide_eq_true_eq, decide_eq_false_iff_not, Bool.and_eq_true, Bool.or_eq_true, Bool.and_eq_false_iff, Bool.or_eq_false_iff, Bool.not_eq_true', Bool.not_eq_false', beq_iff_eq, beq_eq_false_iff_ne, Int.not_lt, Int.not_le] at h85
        have hm1 : i ≤ (i + j) / 2 := by omega
        have hm2 : (i + j) / 2 < j := by omega
        obtain ⟨x, hx⟩ := some_of_lt (show m < l.length by omega)
        obtain ⟨y, hy⟩ := some_of_lt (show (i + j) / 2 < l.length by omega)
        have hxD := hD x (List.mem_of_getElem? hx)
        have hyD := hD y (List.mem_of_getElem? hy)
        refine St.gget (Rr := strR) (D := D) x y hxD hyD ?_
        refine St.skip ?_
        refine St.then_normal ?_
        refine St.block ?_
        refine St.seq ?_
        refine St.rg ?_
        refine St.ev _ (Ev.move (Opd.mk rfl)) rfl ?_
        refine St.ev _ (Ev.move (Opd.mk rfl)) rfl ?_
        refine St.ev _ (Ev.add (Opd.mk rfl) (Opd.mk rfl) (by omega)) rfl ?_
        refine St.ev _ (Ev.convIN ((i + j)) (Opd.mk rfl) (by rw [Tryz.underlying3]; rfl) Tryz.underlying80 (by omega)) rfl ?_
        refine St.ev _ (Ev.shrU 1 2 (by decide) (Opd.mk rfl) (Opd.mk rfl) (by decide)) rfl ?_
        refine St.ev _ (Ev.convUI (Opd.mk rfl) (by rw [Tryz.underlying80]; rfl) Tryz.underlying3 (by omega)) rfl ?_
        refine St.ev _ (Ev.assign (Opd.mk rfl)) rfl ?_
        refine St.nil ?_
        refine St.then_normal ?_
        refine St.seq ?_
        refine St.rq mixed (by kernel_rfl) (Mm.drawn _ _) ?_
        refine Sq.ev _ (Ev.move (Opd.mk rfl)) rfl ?_
        refine Sq.ev _ (Ev.move (Opd.mk rfl)) rfl ?_
        refine Sq.ev _ (Ev.move (Opd.mk rfl)) rfl ?_
        refine Sq.ev _ (Ev.idxaddrrow (k := m) (Opd.mk rfl) (Opd.mk rfl) Tryz.underlying54 sz58 (by omega) (by omega)) rfl ?_
        refine Sq.ev _ (Ev.ldG (Opd.mk rfl) hx Tryz.underlying58 trivial sz58 (by omega)) rfl ?_
        refine Sq.ev _ (Ev.move (Opd.mk rfl)) rfl ?_
        refine Sq.ev _ (Ev.move (Opd.mk rfl)) rfl ?_
        refine Sq.ev _ (Ev.idxaddrrow (k := ((i + j) / 2)) (Opd.mk rfl) (Opd.mk rfl) Tryz.underlying54 sz58 (by omega) (by omega)) rfl ?_
        refine Sq.ev _ (Ev.ldG (Opd.mk rfl) hy Tryz.underlying58 trivial sz58 (by omega)) rfl ?_
        refine Sq.ev _ (Ev.callc (Gm_clo x y) cb39 (Opd.mk rfl) (Opds.cons (Opd.mk rfl) (Opds.cons (Opd.mk rfl) Opds.nil))) rfl ?_
        refine Sq.ev _ (Ev.lss (Opd.mk rfl) (Opd.mk rfl)) rfl ?_
        refine Sq.ev _ (Ev.not (Opd.mk rfl)) rfl ?_
        refine Sq.nil ?_
        refine St.then_normal ?_
        refine St.cond _ rfl (fun h103 => ?_) (fun h103 => ?_)
        · skip
          try simp only [Bool.and_true, Bool.true_and, decide_eq_true_eq, decide_eq_false_iff_not, Bool.and_eq_true, Bool.or_eq_true, Bool.and_eq_false_iff, Bool.or_eq_false_iff, Bool.not_eq_true', Bool.not_eq_false', beq_iff_eq, beq_eq_false_iff_ne, Int.not_lt, Int.not_le] at h103
          refine St.rg ?_
          refine St.ev _ (Ev.move (Opd.mk rfl)) rfl ?_
          refine St.ev _ (Ev.add (Opd.mk rfl) (Opd.mk rfl) (by omega)) rfl ?_
          refine St.ev _ (Ev.assign (Opd.mk rfl)) rfl ?_
          refine St.nil ?_
          refine St.in_normal ?_
          refine St.then_normal ?_
          refine St.againS ((i + j) / 2 + 1, j) ⟨by show a ≤ (i + j) / 2 + 1; omega, by show (i + j) / 2 + 1 ≤ j; omega, hk3, .inr (fun u w hu hw => by rw [show (i + j) / 2 + 1 - 1 = (i + j) / 2 by omega, hy] at hu; rw [hx] at hw; cases hu; cases hw; unfold leG; omega), hc2⟩ (by show j - ((i + j) / 2 + 1) < j - i; omega) (by repeat (first | exact Sub.nil | refine Sub.cons (by first | rfl | exact congrArg (fun z => some (iv z)) (by first | omega | (dsimp only; omega)) | exact congrArg (fun z => some (Value.bool z)) (by first | assumption | exact Eq.symm (by assumption))) ?_)) (fun _ hw => hw.sub)
        · skip
          try simp only [Bool.and_true, Bool.true_and, decide_eq_true_eq, decide_eq_false_iff_not, Bool.and_eq_true, Bool.or_eq_true, Bool.and_eq_false_iff, Bool.or_eq_false_iff, Bool.not_eq_true', Bool.not_eq_false', beq_iff_eq, beq_eq_false_iff_ne, Int.not_lt, Int.not_le] at h103
          refine St.rg ?_
          refine St.ev _ (Ev.move (Opd.mk rfl)) rfl ?_
          refine St.ev _ (Ev.assign (Opd.mk rfl)) rfl ?_
          refine St.nil ?_
          refine St.in_normal ?_
          refine St.then_normal ?_
          refine St.againS (i, (i + j) / 2) ⟨hk1, hm1, by show (i + j) / 2 ≤ m; omega, hc1, .inr (fun u w hu hw => by rw [hx] at hu; rw [hy] at hw; cases hu; cases hw; exact leG_of_lt (by omega))⟩ (by show (i + j) / 2 - i < j - i; omega) (by repeat (first | exact Sub.nil | refine Sub.cons (by first | rfl | exact congrArg (fun z => some (iv z)) (by first | omega | (dsimp only; omega)) | exact congrArg (fun z => some (Value.bool z)) (by first | assumption | exact Eq.symm (by assumption))) ?_)) (fun _ hw => hw.sub)
      · skip
        try simp only [Bool.and_true, Bool.true_and, decide_eq_true_eq, decide_eq_false_iff_not, Bool.and_eq_true, Bool.or_eq_true, Bool.and_eq_false_iff, Bool.or_eq_false_iff, Bool.not_eq_true', Bool.not_eq_false', beq_iff_eq, beq_eq_false_iff_ne, Int.not_lt, Int.not_le] at h85
        obtain rfl : i = j := by omega
        refine St.exit ?_
        refine St.then_exit ?_
        refine St.then_exit ?_
        refine St.in_hit ?_
        refine St.then_normal ?_
        refine St.seq ?_
        refine St.seq ?_
        refine St.rg ?_
        refine St.ev _ (Ev.move (Opd.mk rfl)) rfl ?_
        refine St.ev _ (Ev.assign (Opd.mk rfl)) rfl ?_
        refine St.nil ?_
        refine St.then_normal ?_
        refine St.block ?_
        refine St.loopH2 (ι := Nat) (κ := List (Gm Str)) (fun k L T => (17, iv k) :: T) (fun k L => [row v 58 2 M (rows (gR Str) L), dat (gall strR D)]) (fun k L => i ≤ k ∧ k ≤ m ∧ SegP l L a (m + 1) ∧ ∀ p, L[p]? = rotI l k m (m + 1) p) (fun k L => k) m l (Keep.cons 0 rfl (Keep.cons 1 rfl (Keep.cons 2 rfl (Keep.cons 3 rfl (Keep.cons 4 rfl (Keep.cons 14 rfl Keep.nil)))))) ⟨hk3, Nat.le_refl _, .refl .., fun p => (back_zero ..).symm⟩ (by repeat (first | exact Sub.nil | refine Sub.cons (by first | rfl | exact congrArg (fun z => some (iv z)) (by first | omega | (dsimp only; omega)) | exact congrArg (fun z => some (Value.bool z)) (by first | assumption | exact Eq.symm (by assumption))) ?_)) (fun _ hw => hw.sub) ?_
        rintro k L ⟨hik, hkm, hsp, hrt⟩
        have hll := hsp.len
        refine St.seq ?_
        refine St.seq ?_
        refine St.rg ?_
        refine St.ev _ (Ev.move (Opd.mk rfl)) rfl ?_
        refine St.ev _ (Ev.move (Opd.mk rfl)) rfl ?_
        refine St.ev _ (Ev.gtr (Opd.mk rfl) (Opd.mk rfl)) rfl ?_
        refine St.nil ?_
        refine St.then_normal ?_
        refine St.cond _ rfl (fun h110 => ?_) (fun h110 => ?_)
        · skip
          try simp only [Bool.and_true, Bool.true_and, decide_eq_true_eq, decide_eq_false_iff_not, Bool.and_eq_true, Bool.or_eq_true, Bool.and_eq_false_iff, Bool.or_eq_false_iff, Bool.not_eq_true', Bool.not_eq_false', beq_iff_eq, beq_eq_false_iff_ne, Int.not_lt, Int.not_le] at h110
          obtain ⟨x, hx⟩ := some_of_lt (show k < L.length by omega)
          obtain ⟨y, hy⟩ := some_of_lt (show k - 1 < L.length by omega)
          refine St.rowShape v (by omega) (fun bs cs hsh => ?_)
          refine St.skip ?_
          refine St.then_normal ?_
          refine St.seq ?_
          refine St.block ?_
          refine St.parL [row v 58 2 M (rows (gR Str) L)] mixed ?_
          refine SW.defer 0 (by repeat (first | refine NP.then ?_ | refine NP.inBlock ?_ | exact NP.body)) (by kernel_rfl) rfl (fun R => Ev.move (Opd.mk rfl)) (by kernel_rfl) rfl ?_
          refine SW.defer 1 (by repeat (first | refine NP.then ?_ | refine NP.inBlock ?_ | exact NP.body)) (by kernel_rfl) rfl (fun R => Ev.move (Opd.mk rfl)) (by kernel_rfl) rfl ?_
          refine SW.defer 2 (by repeat (first | refine NP.then ?_ | refine NP.inBlock ?_ | exact NP.body)) (by kernel_rfl) rfl (fun R => Ev.move (Opd.mk rfl)) (by kernel_rfl) rfl ?_
          refine SW.defer 3 (by repeat (first | refine NP.then ?_ | refine NP.inBlock ?_ | exact NP.body)) (by kernel_rfl) rfl (fun R => Ev.move (Opd.mk rfl)) (by kernel_rfl) rfl ?_
          refine SW.defer 4 (by repeat (first | refine NP.then ?_ | refine NP.inBlock ?_ | exact NP.body)) (by kernel_rfl) rfl (fun R => Ev.sub (Opd.mk rfl) (Opd.mk rfl) (by omega)) (by kernel_rfl) rfl ?_
          refine SW.defer 5 (by repeat (first | refine NP.then ?_ | refine NP.inBlock ?_ | exact NP.body)) (by kernel_rfl) rfl (fun R => Ev.move (Opd.mk rfl)) (by kernel_rfl) rfl ?_
          refine SW.defer 6 (by repeat (first | refine NP.then ?_ | refine NP.inBlock ?_ | exact NP.body)) (by kernel_rfl) rfl (fun R => Ev.move (Opd.mk rfl)) (by kernel_rfl) rfl ?_
          refine SW.defer 7 (by repeat (first | refine NP.then ?_ | refine NP.inBlock ?_ | exact NP.body)) (by kernel_rfl) rfl (fun R => Ev.sub (Opd.mk rfl) (Opd.mk rfl) (by omega)) (by kernel_rfl) rfl ?_
          refine SW.defer 8 (by repeat (first | refine NP.then ?_ | refine NP.inBlock ?_ | exact NP.body)) (by kernel_rfl) rfl (fun R => Ev.idxv (k := (k - 1)) hsh (Opd.mk rfl) (Opd.mk rfl) Tryz.underlying54 sz58 (by omega) (by omega)) (by kernel_rfl) rfl ?_
          refine SW.defer 10 (by repeat (first | refine NP.then ?_ | refine NP.inBlock ?_ | exact NP.body)) (by kernel_rfl) rfl (fun R => Ev.move (Opd.mk rfl)) (by kernel_rfl) rfl ?_
          refine SW.defer 11 (by repeat (first | refine NP.then ?_ | refine NP.inBlock ?_ | exact NP.body)) (by kernel_rfl) rfl (fun R => Ev.move (Opd.mk rfl)) (by kernel_rfl) rfl ?_
          refine SW.defer 12 (by repeat (first | refine NP.then ?_ | refine NP.inBlock ?_ | exact NP.body)) (by kernel_rfl) rfl (fun R => Ev.idxv (k := k) hsh (Opd.mk rfl) (Opd.mk rfl) Tryz.underlying54 sz58 (by omega) (by omega)) (by kernel_rfl) rfl ?_
          refine SW.turn2 (i := 9) (j := 13) (by kernel_rfl) rfl rfl ?_ ?_
          · skip
            refine St.ev _ (Ev.ldG (Opd.mk rfl) hy Tryz.underlying58 trivial sz58 (by omega)) rfl ?_
            refine St.nil ?_
            refine St.then_normal ?_
            refine SW.go ?_
            refine SW.turn1 (i := 13) (by kernel_rfl) rfl ?_
            refine St.ev _ (Ev.ldG (Opd.mk rfl) hx Tryz.underlying58 trivial sz58 (by omega)) rfl ?_
            refine St.nil ?_
            refine St.then_normal ?_
            refine SW.go ?_
            refine SW.defer 14 (by repeat (first | refine NP.then ?_ | refine NP.inBlock ?_ | exact NP.body)) (by kernel_rfl) rfl (fun R => Ev.idxv (k := k) hsh (Opd.mk rfl) (Opd.mk rfl) Tryz.underlying54 sz58 (by omega) (by omega)) (by kernel_rfl) rfl ?_
            refine SW.turn1 (i := 15) (by kernel_rfl) rfl ?_
            refine St.storeG (Opd.mk rfl) (Opd.mk rfl) sz58 (by omega) ?_
            refine St.nil ?_
            refine St.then_normal ?_
            refine SW.go ?_
            refine SW.defer 16 (by repeat (first | refine NP.then ?_ | refine NP.inBlock ?_ | exact NP.body)) (by kernel_rfl) rfl (fun R => Ev.idxv (k := (k - 1)) hsh (Opd.mk rfl) (Opd.mk rfl) Tryz.underlying54 sz58 (by omega) (by omega)) (by kernel_rfl) rfl ?_
            refine SW.turn1 (i := 17) (by kernel_rfl) rfl ?_
            refine St.storeG (Opd.mk rfl) (Opd.mk rfl) sz58 (by omega) ?_
            refine St.nil ?_
            refine St.then_normal ?_
            refine SW.go ?_
            refine SW.done (by kernel_rfl) ?_
            refine St.in_normal ?_
            refine St.then_normal ?_
            refine St.rg ?_
            refine St.ev _ (Ev.move (Opd.mk rfl)) rfl ?_
            refine St.ev _ (Ev.sub (Opd.mk rfl) (Opd.mk rfl) (by omega)) rfl ?_
            refine St.slot 112 (iv ((k - 1 : Nat) : Int)) rfl (congrArg (fun z : Int => iv z) (by omega)) ?_
            refine St.ev _ (Ev.assign (Opd.mk rfl)) rfl ?_
            refine St.nil ?_
            refine St.then_normal ?_
            refine St.againH2 (k - 1) ((L.set k y).set (k - 1) x) ⟨by omega, by omega, segp_swap hsp hx hy (by omega) (by omega) (by omega) (by omega), back_step (by omega) hkm hrt hx hy⟩ (by omega) (by repeat (first | exact Sub.nil | refine Sub.cons (by first | rfl | exact congrArg (fun z => some (iv z)) (by first | omega | (dsimp only; omega)) | exact congrArg (fun z => some (Value.bool z)) (by first | assumption | exact Eq.symm (by assumption))) ?_)) (fun _ hw => hw.sub)
          · skip
            refine St.ev _ (Ev.ldG (Opd.mk rfl) hx Tryz.underlying58 trivial sz58 (by omega)) rfl ?_
            refine St.nil ?_
            refine St.then_normal ?_
            refine SW.go ?_
            refine SW.turn1 (i := 9) (by kernel_rfl) rfl ?_
            refine St.ev _ (Ev.ldG (Opd.mk rfl) hy Tryz.underlying58 trivial sz58 (by omega)) rfl ?_
            refine St.nil ?_
            refine St.then_normal ?_
            refine SW.go ?_
            refine SW.defer 14 (by repeat (first | refine NP.then ?_ | refine NP.inBlock ?_ | exact NP.body)) (by kernel_rfl) rfl (fun R => Ev.idxv (k := k) hsh (Opd.mk rfl) (Opd.mk rfl) Tryz.underlying54 sz58 (by omega) (by omega)) (by kernel_rfl) rfl ?_
            refine SW.turn1 (i := 15) (by kernel_rfl) rfl ?_
            refine St.storeG (Opd.mk rfl) (Opd.mk rfl) sz58 (by omega) ?_
            refine St.nil ?_
            refine St.then_normal ?_
            refine SW.go ?_
            refine SW.defer 16 (by repeat (first | refine NP.then ?_ | refine NP.inBlock ?_ | exact NP.body)) (by kernel_rfl) rfl (fun R => Ev.idxv (k := (k - 1)) hsh (Opd.mk rfl) (Opd.mk rfl) Tryz.underlying54 sz58 (by omega) (by omega)) (by kernel_rfl) rfl ?_
            refine SW.turn1 (i := 17) (by kernel_rfl) rfl ?_
            refine St.storeG (Opd.mk rfl) (Opd.mk rfl) sz58 (by omega) ?_
            refine St.nil ?_
            refine St.then_normal ?_
            refine SW.go ?_
            refine SW.done (by kernel_rfl) ?_
            refine St.in_normal ?_
            refine St.then_normal ?_
            refine St.rg ?_
            refine St.ev _ (Ev.move (Opd.mk rfl)) rfl ?_
            refine St.ev _ (Ev.sub (Opd.mk rfl) (Opd.mk rfl) (by omega)) rfl ?_
            refine St.slot 112 (iv ((k - 1 : Nat) : Int)) rfl (congrArg (fun z : Int => iv z) (by omega)) ?_
            refine St.ev _ (Ev.assign (Opd.mk rfl)) rfl ?_
            refine St.nil ?_
            refine St.then_normal ?_
            refine St.againH2 (k - 1) ((L.set k y).set (k - 1) x) ⟨by omega, by omega, segp_swap hsp hx hy (by omega) (by omega) (by omega) (by omega), back_step (by omega) hkm hrt hx hy⟩ (by omega) (by repeat (first | exact Sub.nil | refine Sub.cons (by first | rfl | exact congrArg (fun z => some (iv z)) (by first | omega | (dsimp only; omega)) | exact congrArg (fun z => some (Value.bool z)) (by first | assumption | exact Eq.symm (by assumption))) ?_)) (fun _ hw => hw.sub)
        · skip
          try simp only [Bool.and_true, Bool.true_and, decide_eq_true_eq, decide_eq_false_iff_not, Bool.and_eq_true, Bool.or_eq_true, Bool.and_eq_false_iff, Bool.or_eq_false_iff, Bool.not_eq_true', Bool.not_eq_false', beq_iff_eq, beq_eq_false_iff_ne, Int.not_lt, Int.not_le] at h110
          obtain rfl : i = k := by omega
          refine St.exit ?_
          refine St.then_exit ?_
          refine St.then_exit ?_
          refine St.in_hit ?_
          refine St.then_normal ?_
          refine St.rett ?_
          refine St.then_ret ?_
          refine St.rets [] [row v 58 2 M (rows (gR Str) L), dat (gall strR D)] Tryz.results87 trivial ?_ (fun _ hw => hw.sub)
          exact ⟨L, rfl, hsp, merge_back leG_trans hA hk1 hk3 hrt hc1 hc2 (by omega), rfl⟩
    · skip
      try simp only [Bool.and_true, Bool.true_and, decide_eq_true_eq, decide_eq_false_iff_not, Bool.and_eq_true, Bool.or_eq_true, Bool.and_eq_false_iff, Bool.or_eq_false_iff, Bool.not_eq_true', Bool.not_eq_false', beq_iff_eq, beq_eq_false_iff_ne, Int.not_lt, Int.not_le] at h80
      refine St.skip ?_
      refine St.then_normal ?_
      refine St.seq ?_
      refine St.rg ?_
      refine St.ev _ (Ev.move (Opd.mk rfl)) rfl ?_
      refine St.ev _ (Ev.move (Opd.mk rfl)) rfl ?_
      refine St.ev _ (Ev.add (Opd.mk rfl) (Opd.mk rfl) (by omega)) rfl ?_
      refine St.ev _ (Ev.convIN ((a + b)) (Opd.mk rfl) (by rw [Tryz.underlying3]; rfl) Tryz.underlying80 (by omega)) rfl ?_
      refine St.ev _ (Ev.shrU 1 2 (by decide) (Opd.mk rfl) (Opd.mk rfl) (by decide)) rfl ?_
      refine St.ev _ (Ev.convUI (Opd.mk rfl) (by rw [Tryz.underlying80]; rfl) Tryz.underlying3 (by omega)) rfl ?_
      refine St.ev _ (Ev.assign (Opd.mk rfl)) rfl ?_
      refine St.nil ?_
      refine St.then_normal ?_
      refine St.seq ?_
      refine St.rg ?_
      refine St.ev _ (Ev.move (Opd.mk rfl)) rfl ?_
      refine St.ev _ (Ev.move (Opd.mk rfl)) rfl ?_
      refine St.ev _ (Ev.add (Opd.mk rfl) (Opd.mk rfl) (by omega)) rfl ?_
      refine St.slot 137 (iv ((((a + b) / 2) + m : Nat) : Int)) rfl (congrArg (fun z : Int => iv z) (by omega)) ?_
      refine St.ev _ (Ev.assign (Opd.mk rfl)) rfl ?_
      refine St.nil ?_
      refine St.then_normal ?_
      refine St.seq ?_
      refine St.rg ?_
      refine St.ev _ (Ev.assign (Opd.mk rfl)) rfl ?_
      refine St.ev _ (Ev.assign (Opd.mk rfl)) rfl ?_
      refine St.nil ?_
      refine St.then_normal ?_
      refine St.join (ι := Nat × Nat) (fun x T => (20, iv x.1) :: (21, iv x.2) :: T) (fun x => [row v 58 2 M (rows (gR Str) l), dat (gall strR D)]) (fun x => a ≤ x.1 ∧ x.1 ≤ x.2 ∧ x.2 ≤ m ∧ ((a + b) / 2) + m ≤ b + x.1 ∧ x.2 ≤ ((a + b) / 2) ∧ (x.1 = a ∨ ((a + b) / 2) + m = b + x.1) ∧ (x.2 = m ∨ x.2 = ((a + b) / 2))) (Keep.cons 0 rfl (Keep.cons 1 rfl (Keep.cons 2 rfl (Keep.cons 3 rfl (Keep.cons 4 rfl (Keep.cons 18 rfl (Keep.cons 19 rfl Keep.nil))))))) ?_ ?_
      · skip
        refine St.seq ?_
        refine St.rg ?_
        refine St.ev _ (Ev.move (Opd.mk rfl)) rfl ?_
        refine St.ev _ (Ev.move (Opd.mk rfl)) rfl ?_
        refine St.ev _ (Ev.gtr (Opd.mk rfl) (Opd.mk rfl)) rfl ?_
        refine St.nil ?_
        refine St.then_normal ?_
        refine St.cond _ rfl (fun h140 => ?_) (fun h140 => ?_)
        · skip
          try simp only [Bool.and_true, Bool.true_and, decide_eq_true_eq, decide_eq_false_iff_not, Bool.and_eq_true, Bool.or_eq_true, Bool.and_eq_false_iff, Bool.or_eq_false_iff, Bool.not_eq_true', Bool.not_eq_false', beq_iff_eq, beq_eq_false_iff_ne, Int.not_lt, Int.not_le] at h140
          refine St.seq ?_
          refine St.rg ?_
          refine St.ev _ (Ev.move (Opd.mk rfl)) rfl ?_
          refine St.ev _ (Ev.move (Opd.mk rfl)) rfl ?_
          refine St.ev _ (Ev.sub (Opd.mk rfl) (Opd.mk rfl) (by omega)) rfl ?_
          refine St.slot 143 (iv ((((a + b) / 2) + m - b : Nat) : Int)) rfl (congrArg (fun z : Int => iv z) (by omega)) ?_
          refine St.ev _ (Ev.assign (Opd.mk rfl)) rfl ?_
          refine St.nil ?_
          refine St.then_normal ?_
          refine St.rg ?_
          refine St.ev _ (Ev.move (Opd.mk rfl)) rfl ?_
          refine St.ev _ (Ev.assign (Opd.mk rfl)) rfl ?_
          refine St.nil ?_
          refine St.then_normal ?_
          refine St.met (((a + b) / 2) + m - b, ((a + b) / 2)) (by dsimp only; omega) (by repeat (first | exact Sub.nil | refine Sub.cons (by first | rfl | exact congrArg (fun z => some (iv z)) (by first | omega | (dsimp only; omega)) | exact congrArg (fun z => some (Value.bool z)) (by first | assumption | exact Eq.symm (by assumption))) ?_)) (fun _ hw => hw.sub)
        · skip
          try simp only [Bool.and_true, Bool.true_and, decide_eq_true_eq, decide_eq_false_iff_not, Bool.and_eq_true, Bool.or_eq_true, Bool.and_eq_false_iff, Bool.or_eq_false_iff, Bool.not_eq_true', Bool.not_eq_false', beq_iff_eq, beq_eq_false_iff_ne, Int.not_lt, Int.not_le] at h140
          refine St.seq ?_
          refine St.rg ?_
          refine St.ev _ (Ev.move (Opd.mk rfl)) rfl ?_
          refine St.ev _ (Ev.assign (Opd.mk rfl)) rfl ?_
          refine St.nil ?_
          refine St.then_normal ?_
          refine St.rg ?_
          refine St.ev _ (Ev.move (Opd.mk rfl)) rfl ?_
          refine St.ev _ (Ev.assign (Opd.mk rfl)) rfl ?_
          refine St.nil ?_
          refine St.then_normal ?_
          refine St.met (a, m) (by dsimp only; omega) (by repeat (first | exact Sub.nil | refine Sub.cons (by first | rfl | exact congrArg (fun z => some (iv z)) (by first | omega | (dsimp only; omega)) | exact congrArg (fun z => some (Value.bool z)) (by first | assumption | exact Eq.symm (by assumption))) ?_)) (fun _ hw => hw.sub)
      · skip
        rintro ⟨lo, hi⟩ ⟨g1, g2, g3, g4, g5, g6, g7⟩
        dsimp only at g1 g2 g3 g4 g5 g6 g7 ⊢
        refine St.seq ?_
        refine St.rg ?_
        refine St.ev _ (Ev.move (Opd.mk rfl)) rfl ?_
        refine St.ev _ (Ev.sub (Opd.mk rfl) (Opd.mk rfl) (by omega)) rfl ?_
        refine St.slot 148 (iv ((((a + b) / 2) + m - 1 : Nat) : Int)) rfl (congrArg (fun z : Int => iv z) (by omega)) ?_
        refine St.ev _ (Ev.assign (Opd.mk rfl)) rfl ?_
        refine St.nil ?_
        refine St.then_normal ?_
        refine St.seq ?_
        refine St.block ?_
        refine St.loopS (ι := Nat × Nat) (fun x T => (20, iv x.1) :: (21, iv x.2) :: T) (fun x => lo ≤ x.1 ∧ x.1 ≤ x.2 ∧ x.2 ≤ hi ∧ (x.1 = lo ∨ ∀ u w, l[x.1 - 1]? = some u → l[((a + b) / 2) + m - x.1]? = some w → leG u w) ∧ (x.2 = hi ∨ ∀ u w, l[((a + b) / 2) + m - 1 - x.2]? = some u → l[x.2]? = some w → leG u w)) (fun x => x.2 - x.1) (lo, hi) (Keep.cons 0 rfl (Keep.cons 1 rfl (Keep.cons 2 rfl (Keep.cons 3 rfl (Keep.cons 4 rfl (Keep.cons 18 rfl (Keep.cons 19 rfl (Keep.cons 22 rfl Keep.nil)))))))) ⟨Nat.le_refl _, g2, Nat.le_refl _, .inl rfl, .inl rfl⟩ (by repeat (first | exact Sub.nil | refine Sub.cons (by first | rfl | exact congrArg (fun z => some (iv z)) (by first | omega | (dsimp only; omega)) | exact congrArg (fun z => some (Value.bool z)) (by first | assumption | exact Eq.symm (by assumption))) ?_)) ?_
        rintro ⟨s, r⟩ ⟨hk1, hk2, hk3, hc1, hc2⟩
        dsimp only at hk1 hk2 hk3 hc1 hc2 ⊢
        refine St.seq ?_
        refine St.seq ?_
        refine St.rg ?_
        refine St.ev _ (Ev.move (Opd.mk rfl)) rfl ?_
        refine St.ev _ (Ev.move (Opd.mk rfl)) rfl ?_
        refine St.ev _ (Ev.lss (Opd.mk rfl) (Opd.mk rfl)) rfl ?_
        refine St.nil ?_
        refine St.then_normal ?_
        refine St.cond _ rfl (fun h151 => ?_) (fun h151 => ?_)
        · skip
          try simp only [Bool.and_true, Bool.true_and, decide_eq_true_eq, decide_eq_false_iff_not, Bool.and_eq_true, Bool.or_eq_true, Bool.and_eq_false_iff, Bool.or_eq_false_iff, Bool.not_eq_true', Bool.not_eq_false', beq_iff_eq, beq_eq_false_iff_ne, Int.not_lt, Int.not_le] at h151
          have hm1 : s ≤ ((s + r) / 2) := by omega
          have hm2 : ((s + r) / 2) < r := by omega
          obtain ⟨x, hx⟩ := some_of_lt (show ((a + b) / 2) + m - 1 - ((s + r) / 2) < l.length by omega)
          obtain ⟨y, hy⟩ := some_of_lt (show ((s + r) / 2) < l.length by omega)
          have hxD := hD x (List.mem_of_getElem? hx)
          have hyD := hD y (List.mem_of_getElem? hy)
          refine St.gget (Rr := strR) (D := D) x y hxD hyD ?_
          refine St.skip ?_
          refine St.then_normal ?_
          refine St.block ?_
          refine St.seq ?_
          refine St.rg ?_
          refine St.ev _ (Ev.move (Opd.mk rfl)) rfl ?_
          refine St.ev _ (Ev.move (Opd.mk rfl)) rfl ?_
          refine St.ev _ (Ev.add (Opd.mk rfl) (Opd.mk rfl) (by omega)) rfl ?_
          refine St.ev _ (Ev.convIN ((s + r)) (Opd.mk rfl) (by rw [Tryz.underlying3]; rfl) Tryz.underlying80 (by omega)) rfl ?_
          refine St.ev _ (Ev.shrU 1 2 (by decide) (Opd.mk rfl) (Opd.mk rfl) (by decide)) rfl ?_
          refine St.ev _ (Ev.convUI (Opd.mk rfl) (by rw [Tryz.underlying80]; rfl) Tryz.underlying3 (by omega)) rfl ?_
          refine St.ev _ (Ev.assign (Opd.mk rfl)) rfl ?_
          refine St.nil ?_
          refine St.then_normal ?_
          refine St.seq ?_
          refine St.rq mixed (by kernel_rfl) (Mm.drawn _ _) ?_
          refine Sq.ev _ (Ev.move (Opd.mk rfl)) rfl ?_
          refine Sq.ev _ (Ev.move (Opd.mk rfl)) rfl ?_
          refine Sq.ev _ (Ev.move (Opd.mk rfl)) rfl ?_
          refine Sq.ev _ (Ev.move (Opd.mk rfl)) rfl ?_
          refine Sq.ev _ (Ev.sub (Opd.mk rfl) (Opd.mk rfl) (by omega)) rfl ?_
          refine Sq.ev _ (Ev.idxaddrrow (k := (((a + b) / 2) + m - 1 - ((s + r) / 2))) (Opd.mk rfl) (Opd.mk rfl) Tryz.underlying54 sz58 (by omega) (by omega)) rfl ?_
          refine Sq.ev _ (Ev.ldG (Opd.mk rfl) hx Tryz.underlying58 trivial sz58 (by omega)) rfl ?_
          refine Sq.ev _ (Ev.move (Opd.mk rfl)) rfl ?_
          refine Sq.ev _ (Ev.move (Opd.mk rfl)) rfl ?_
          refine Sq.ev _ (Ev.idxaddrrow (k := ((s + r) / 2)) (Opd.mk rfl) (Opd.mk rfl) Tryz.underlying54 sz58 (by omega) (by omega)) rfl ?_
          refine Sq.ev _ (Ev.ldG (Opd.mk rfl) hy Tryz.underlying58 trivial sz58 (by omega)) rfl ?_
          refine Sq.ev _ (Ev.callc (Gm_clo x y) cb39 (Opd.mk rfl) (Opds.cons (Opd.mk rfl) (Opds.cons (Opd.mk rfl) Opds.nil))) rfl ?_
          refine Sq.ev _ (Ev.lss (Opd.mk rfl) (Opd.mk rfl)) rfl ?_
          refine Sq.ev _ (Ev.not (Opd.mk rfl)) rfl ?_
          refine Sq.nil ?_
          refine St.then_normal ?_
          refine St.cond _ rfl (fun h171 => ?_) (fun h171 => ?_)
          · skip
            try simp only [Bool.and_true, Bool.true_and, decide_eq_true_eq, decide_eq_false_iff_not, Bool.and_eq_true, Bool.or_eq_true, Bool.and_eq_false_iff, Bool.or_eq_false_iff, Bool.not_eq_true', Bool.not_eq_false', beq_iff_eq, beq_eq_false_iff_ne, Int.not_lt, Int.not_le] at h171
            refine St.rg ?_
            refine St.ev _ (Ev.move (Opd.mk rfl)) rfl ?_
            refine St.ev _ (Ev.add (Opd.mk rfl) (Opd.mk rfl) (by omega)) rfl ?_
            refine St.ev _ (Ev.assign (Opd.mk rfl)) rfl ?_
            refine St.nil ?_
            refine St.in_normal ?_
            refine St.then_normal ?_
            refine St.againS (((s + r) / 2) + 1, r) ⟨by show lo ≤ ((s + r) / 2) + 1; omega, by show ((s + r) / 2) + 1 ≤ r; omega, hk3, .inr (fun u w hu hw => by rw [show ((s + r) / 2) + 1 - 1 = ((s + r) / 2) by omega, hy] at hu; rw [show ((a + b) / 2) + m - (((s + r) / 2) + 1) = ((a + b) / 2) + m - 1 - ((s + r) / 2) by omega, hx] at hw; cases hu; cases hw; unfold leG; omega), hc2⟩ (by show r - (((s + r) / 2) + 1) < r - s; omega) (by repeat (first | exact Sub.nil | refine Sub.cons (by first | rfl | exact congrArg (fun z => some (iv z)) (by first | omega | (dsimp only; omega)) | exact congrArg (fun z => some (Value.bool z)) (by first | assumption | exact Eq.symm (by assumption))) ?_)) (fun _ hw => hw.sub)
          · skip
            try simp only [Bool.and_true, Bool.true_and, decide_eq_true_eq, decide_eq_false_iff_not, Bool.and_eq_true, Bool.or_eq_true, Bool.and_eq_false_iff, Bool.or_eq_false_iff, Bool.not_eq_true', Bool.not_eq_false', beq_iff_eq, beq_eq_false_iff_ne, Int.not_lt, Int.not_le] at h171
            refine St.rg ?_
            refine St.ev _ (Ev.move (Opd.mk rfl)) rfl ?_
            refine St.ev _ (Ev.assign (Opd.mk rfl)) rfl ?_
            refine St.nil ?_
            refine St.in_normal ?_
            refine St.then_normal ?_
            refine St.againS (s, ((s + r) / 2)) ⟨hk1, hm1, by show ((s + r) / 2) ≤ hi; omega, hc1, .inr (fun u w hu hw => by rw [hx] at hu; rw [hy] at hw; cases hu; cases hw; exact leG_of_lt (by omega))⟩ (by show ((s + r) / 2) - s < r - s; omega) (by repeat (first | exact Sub.nil | refine Sub.cons (by first | rfl | exact congrArg (fun z => some (iv z)) (by first | omega | (dsimp only; omega)) | exact congrArg (fun z => some (Value.bool z)) (by first | assumption | exact Eq.symm (by assumption))) ?_)) (fun _ hw => hw.sub)
        · skip
          try simp only [Bool.and_true, Bool.true_and, decide_eq_true_eq, decide_eq_false_iff_not, Bool.and_eq_true, Bool.or_eq_true, Bool.and_eq_false_iff, Bool.or_eq_false_iff, Bool.not_eq_true', Bool.not_eq_false', beq_iff_eq, beq_eq_false_iff_ne, Int.not_lt, Int.not_le] at h151
          obtain rfl : s = r := by omega
          refine St.exit ?_
          refine St.then_exit ?_
          refine St.then_exit ?_
          refine St.in_hit ?_
          refine St.then_normal ?_
          refine St.seq ?_
          refine St.rg ?_
          refine St.ev _ (Ev.move (Opd.mk rfl)) rfl ?_
          refine St.ev _ (Ev.move (Opd.mk rfl)) rfl ?_
          refine St.ev _ (Ev.sub (Opd.mk rfl) (Opd.mk rfl) (by omega)) rfl ?_
          refine St.slot 177 (iv ((((a + b) / 2) + m - s : Nat) : Int)) rfl (congrArg (fun z : Int => iv z) (by omega)) ?_
          refine St.ev _ (Ev.assign (Opd.mk rfl)) rfl ?_
          refine St.nil ?_
          refine St.then_normal ?_
          refine St.join (ι := List (Gm Str)) (fun L1 T => T) (fun L1 => [row v 58 2 M (rows (gR Str) L1), dat (gall strR D)]) (fun L1 => SegP l L1 a b ∧ ∀ p, L1[p]? = rotI l s m (((a + b) / 2) + m - s) p) (Keep.cons 0 rfl (Keep.cons 1 rfl (Keep.cons 3 rfl (Keep.cons 4 rfl (Keep.cons 18 rfl (Keep.cons 20 rfl (Keep.cons 24 rfl Keep.nil))))))) ?_ ?_
          · skip
            refine St.seq ?_
            refine St.rg ?_
            refine St.ev _ (Ev.move (Opd.mk rfl)) rfl ?_
            refine St.ev _ (Ev.move (Opd.mk rfl)) rfl ?_
            refine St.ev _ (Ev.lss (Opd.mk rfl) (Opd.mk rfl)) rfl ?_
            refine St.ev _ (Ev.move (Opd.mk rfl)) rfl ?_
            refine St.gt _ rfl rfl (fun hg => Ev.move (Opd.mk rfl)) rfl ?_
            refine St.gt _ rfl rfl (fun hg => Ev.move (Opd.mk rfl)) rfl ?_
            refine St.gt _ rfl rfl (fun hg => Ev.lss (Opd.gv rfl hg) (Opd.gv rfl hg)) rfl ?_
            refine St.ev _ (Ev.and (Opd.mk rfl) (fun hp => Opd.gv rfl hp)) rfl ?_
            refine St.nil ?_
            refine St.then_normal ?_
            refine St.cond _ rfl (fun h185 => ?_) (fun h185 => ?_)
            · skip
              try simp only [Bool.and_true, Bool.true_and, decide_eq_true_eq, decide_eq_false_iff_not, Bool.and_eq_true, Bool.or_eq_true, Bool.and_eq_false_iff, Bool.or_eq_false_iff, Bool.not_eq_true', Bool.not_eq_false', beq_iff_eq, beq_eq_false_iff_ne, Int.not_lt, Int.not_le] at h185
              refine St.rg ?_
              refine St.ev _ (Ev.move (Opd.mk rfl)) rfl ?_
              refine St.ev _ (Ev.move (Opd.mk rfl)) rfl ?_
              refine St.ev _ (Ev.move (Opd.mk rfl)) rfl ?_
              refine St.ev _ (Ev.move (Opd.mk rfl)) rfl ?_
              refine St.ev _ (Ev.move (Opd.mk rfl)) rfl ?_
              refine St.call (rotate_spec v M s m (((a + b) / 2) + m - s) l hlen hM (by omega) (by omega) (by omega)) cb101 (Opds.cons (Opd.mk rfl) (Opds.cons (Opd.mk rfl) (Opds.cons (Opd.mk rfl) (Opds.cons (Opd.mk rfl) (Opds.cons (Opd.mk rfl) Opds.nil))))) rfl ?_
              rintro v191 _ ⟨L1, rfl, hp1, hr1, rfl⟩
              refine St.app1 ?_
              refine St.nil ?_
              refine St.then_normal ?_
              refine St.met L1 ⟨⟨hp1, fun p hp => by rw [hr1, rot_same (by omega) (by omega) (by omega)]⟩, hr1⟩ (by repeat (first | exact Sub.nil | refine Sub.cons (by first | rfl | exact congrArg (fun z => some (iv z)) (by first | omega | (dsimp only; omega)) | exact congrArg (fun z => some (Value.bool z)) (by first | assumption | exact Eq.symm (by assumption))) ?_)) (fun _ hw => hw.sub)
            · skip
              try simp only [Bool.and_true, Bool.true_and, decide_eq_true_eq, decide_eq_false_iff_not, Bool.and_eq_true, Bool.or_eq_true, Bool.and_eq_false_iff, Bool.or_eq_false_iff, Bool.not_eq_true', Bool.not_eq_false', beq_iff_eq, beq_eq_false_iff_ne, Int.not_lt, Int.not_le] at h185
              refine St.skip ?_
              refine St.then_normal ?_
              refine St.met l ⟨.refl .., fun p => (rot_triv (by omega) (by omega) (by omega) p).symm⟩ (by repeat (first | exact Sub.nil | refine Sub.cons (by first | rfl | exact congrArg (fun z => some (iv z)) (by first | omega | (dsimp only; omega)) | exact congrArg (fun z => some (Value.bool z)) (by first | assumption | exact Eq.symm (by assumption))) ?_)) (fun _ hw => hw.sub)
          · skip
            rintro L1 ⟨hsp1, hrt1⟩
            have hll1 := hsp1.len
            have hc1b : s = a ∨ (((a + b) / 2) + m - s) = b ∨ ∀ x y, l[s - 1]? = some x → l[(((a + b) / 2) + m - s)]? = some y → leG x y := by rcases hc1 with q | q; exact (g6.elim (fun z => .inl (by omega)) fun z => .inr (.inl (by omega))); exact .inr (.inr q)
            have hc2b : s = m ∨ (((a + b) / 2) + m - s) = m ∨ ∀ x y, l[(((a + b) / 2) + m - s) - 1]? = some x → l[s]? = some y → leG x y := by rcases hc2 with q | q; exact (g7.elim (fun z => .inl (by omega)) fun z => .inr (.inl (by omega))); exact .inr (.inr (by rw [show (((a + b) / 2) + m - s) - 1 = ((a + b) / 2) + m - 1 - s by omega]; exact q))
            obtain ⟨k1, k2, k3, k4, k5⟩ := merge_rot leG_trans hA hB (by omega) (by omega) (by omega) (by omega) hrt1 hc1b hc2b (by omega)
            rw [show s + ((((a + b) / 2) + m - s) - m) = ((a + b) / 2) by omega] at k2 k3 k5
            refine St.join (ι := List (Gm Str)) (fun L2 T => T) (fun L2 => [row v 58 2 M (rows (gR Str) L2), dat (gall strR D)]) (fun L2 => SegP L1 L2 a ((a + b) / 2) ∧ SegS leG L2 a ((a + b) / 2)) (Keep.cons 0 rfl (Keep.cons 3 rfl (Keep.cons 4 rfl (Keep.cons 18 rfl (Keep.cons 24 rfl Keep.nil))))) ?_ ?_
            · skip
              refine St.seq ?_
              refine St.rg ?_
              refine St.ev _ (Ev.move (Opd.mk rfl)) rfl ?_
              refine St.ev _ (Ev.move (Opd.mk rfl)) rfl ?_
              refine St.ev _ (Ev.lss (Opd.mk rfl) (Opd.mk rfl)) rfl ?_
              refine St.ev _ (Ev.move (Opd.mk rfl)) rfl ?_
              refine St.gt _ rfl rfl (fun hg => Ev.move (Opd.mk rfl)) rfl ?_
              refine St.gt _ rfl rfl (fun hg => Ev.move (Opd.mk rfl)) rfl ?_
              refine St.gt _ rfl rfl (fun hg => Ev.lss (Opd.gv rfl hg) (Opd.gv rfl hg)) rfl ?_
              refine St.ev _ (Ev.and (Opd.mk rfl) (fun hp => Opd.gv rfl hp)) rfl ?_
              refine St.nil ?_
              refine St.then_normal ?_
              refine St.cond _ rfl (fun h199 => ?_) (fun h199 => ?_)
              · skip
                try simp only [Bool.and_true, Bool.true_and, decide_eq_true_eq, decide_eq_false_iff_not, Bool.and_eq_true, Bool.or_eq_true, Bool.and_eq_false_iff, Bool.or_eq_false_iff, Bool.not_eq_true', Bool.not_eq_false', beq_iff_eq, beq_eq_false_iff_ne, Int.not_lt, Int.not_le] at h199
                refine St.rg ?_
                refine St.ev _ (Ev.move (Opd.mk rfl)) rfl ?_
                refine St.ev _ (Ev.move (Opd.mk rfl)) rfl ?_
                refine St.ev _ (Ev.move (Opd.mk rfl)) rfl ?_
                refine St.ev _ (Ev.move (Opd.mk rfl)) rfl ?_
                refine St.ev _ (Ev.move (Opd.mk rfl)) rfl ?_
                refine St.call (ih (((a + b) / 2) - a) (by omega) a s ((a + b) / 2) L1 rfl (by omega) hM (fun x hx => hD x (hsp1.1.mem_iff.1 hx)) (by omega) (by omega) (by omega) k1 k2) cb87 (Opds.cons (Opd.mk rfl) (Opds.cons (Opd.mk rfl) (Opds.cons (Opd.mk rfl) (Opds.cons (Opd.mk rfl) (Opds.cons (Opd.mk rfl) Opds.nil))))) rfl ?_
                rintro v205 _ ⟨L2, rfl, hsp2, hss2, rfl⟩
                refine St.app2 ?_
                refine St.nil ?_
                refine St.then_normal ?_
                refine St.met L2 ⟨hsp2, hss2⟩ (by repeat (first | exact Sub.nil | refine Sub.cons (by first | rfl | exact congrArg (fun z => some (iv z)) (by first | omega | (dsimp only; omega)) | exact congrArg (fun z => some (Value.bool z)) (by first | assumption | exact Eq.symm (by assumption))) ?_)) (fun _ hw => hw.sub)
              · skip
                try simp only [Bool.and_true, Bool.true_and, decide_eq_true_eq, decide_eq_false_iff_not, Bool.and_eq_true, Bool.or_eq_true, Bool.and_eq_false_iff, Bool.or_eq_false_iff, Bool.not_eq_true', Bool.not_eq_false', beq_iff_eq, beq_eq_false_iff_ne, Int.not_lt, Int.not_le] at h199
                refine St.skip ?_
                refine St.then_normal ?_
                refine St.met L1 ⟨.refl .., by rcases Nat.eq_or_lt_of_le (show a ≤ s by omega) with q | q; exact q ▸ k2; exact (show s = ((a + b) / 2) by omega) ▸ k1⟩ (by repeat (first | exact Sub.nil | refine Sub.cons (by first | rfl | exact congrArg (fun z => some (iv z)) (by first | omega | (dsimp only; omega)) | exact congrArg (fun z => some (Value.bool z)) (by first | assumption | exact Eq.symm (by assumption))) ?_)) (fun _ hw => hw.sub)
            · skip
              rintro L2 ⟨hsp2, hss2⟩
              have hll2 := hsp2.len
              have k3b : SegS leG L2 ((a + b) / 2) (((a + b) / 2) + m - s) := k3.eq fun p hp _ => hsp2.2 p (.inr hp)
              have k4b : SegS leG L2 (((a + b) / 2) + m - s) b := k4.eq fun p hp _ => hsp2.2 p (.inr (by omega))
              refine St.seq ?_
              refine St.rg ?_
              refine St.ev _ (Ev.move (Opd.mk rfl)) rfl ?_
              refine St.ev _ (Ev.move (Opd.mk rfl)) rfl ?_
              refine St.ev _ (Ev.lss (Opd.mk rfl) (Opd.mk rfl)) rfl ?_
              refine St.ev _ (Ev.move (Opd.mk rfl)) rfl ?_
              refine St.gt _ rfl rfl (fun hg => Ev.move (Opd.mk rfl)) rfl ?_
              refine St.gt _ rfl rfl (fun hg => Ev.move (Opd.mk rfl)) rfl ?_
              refine St.gt _ rfl rfl (fun hg => Ev.lss (Opd.gv rfl hg) (Opd.gv rfl hg)) rfl ?_
              refine St.ev _ (Ev.and (Opd.mk rfl) (fun hp => Opd.gv rfl hp)) rfl ?_
              refine St.nil ?_
              refine St.then_normal ?_
              refine St.cond _ rfl (fun h213 => ?_) (fun h213 => ?_)
              · skip
                try simp only [Bool.and_true, Bool.true_and, decide_eq_true_eq, decide_eq_false_iff_not, Bool.and_eq_true, Bool.or_eq_true, Bool.and_eq_false_iff, Bool.or_eq_false_iff, Bool.not_eq_true', Bool.not_eq_false', beq_iff_eq, beq_eq_false_iff_ne, Int.not_lt, Int.not_le] at h213
                refine St.rg ?_
                refine St.ev _ (Ev.move (Opd.mk rfl)) rfl ?_
                refine St.ev _ (Ev.move (Opd.mk rfl)) rfl ?_
                refine St.ev _ (Ev.move (Opd.mk rfl)) rfl ?_
                refine St.ev _ (Ev.move (Opd.mk rfl)) rfl ?_
                refine St.ev _ (Ev.move (Opd.mk rfl)) rfl ?_
                refine St.call (ih (b - ((a + b) / 2)) (by omega) ((a + b) / 2) (((a + b) / 2) + m - s) b L2 rfl (by omega) hM (fun x hx => hD x (hsp1.1.mem_iff.1 (hsp2.1.mem_iff.1 hx))) (by omega) (by omega) (by omega) k3b k4b) cb87 (Opds.cons (Opd.mk rfl) (Opds.cons (Opd.mk rfl) (Opds.cons (Opd.mk rfl) (Opds.cons (Opd.mk rfl) (Opds.cons (Opd.mk rfl) Opds.nil))))) rfl ?_
                rintro v219 _ ⟨L3, rfl, hsp3, hss3, rfl⟩
                refine St.app2 ?_
                refine St.nil ?_
                refine St.rets_normal ?_
                refine St.rets [] [row v 58 2 M (rows (gR Str) L3), dat (gall strR D)] Tryz.results87 trivial ?_ (fun _ hw => hw.sub)
                exact ⟨L3, rfl, (hsp1.trans (hsp2.wide (Nat.le_refl _) (by omega))).trans (hsp3.wide (by omega) (Nat.le_refl _)), halves k5 hsp2 hss2 hsp3 hss3, rfl⟩
              · skip
                try simp only [Bool.and_true, Bool.true_and, decide_eq_true_eq, decide_eq_false_iff_not, Bool.and_eq_true, Bool.or_eq_true, Bool.and_eq_false_iff, Bool.or_eq_false_iff, Bool.not_eq_true', Bool.not_eq_false', beq_iff_eq, beq_eq_false_iff_ne, Int.not_lt, Int.not_le] at h213
                refine St.skip ?_
                refine St.rets_normal ?_
                refine St.rets [] [row v 58 2 M (rows (gR Str) L2), dat (gall strR D)] Tryz.results87 trivial ?_ (fun _ hw => hw.sub)
                have hss3 : SegS leG L2 ((a + b) / 2) b := by
                  rcases Nat.eq_or_lt_of_le (show (((a + b) / 2) + m - s) ≤ b by omega) with q | q
                  · rw [q] at k3b; exact k3b
                  · rw [show (((a + b) / 2) + m - s) = ((a + b) / 2) by omega] at k4b; exact k4b
                exact ⟨L2, rfl, hsp1.trans (hsp2.wide (Nat.le_refl _) (by omega)), halves k5 hsp2 hss2 (.refl ..) hss3, rfl⟩

theorem symMerge_spec (D : List (Gm Str)) (v : Value) (M N : Nat) : SymOK D v M N := Nat.strongRecOn N fun n ih => symMerge_step D v M n ih

end Go.Proofs.YtgikcbfdonjggaaGreatDoor

/-
  (YtgikcbfdonjggaaGreatDoorG4)
  The library's stable sort, at grams.
  Conditions: few elements.
-/
set_option maxRecDepth 20000
set_option linter.unusedSimpArgs false
set_option linter.unusedVariables false
namespace Go.Proofs.YtgikcbfdonjggaaGreatDoor
open Go Go.J

theorem segs_len {α : Type} {le : α → α → Prop} {l : List α} {a M b : Nat} (h : SegS le l a M) (hl : l.length = M) : SegS le l a b := fun p q x y hp hpq _ hx hy => h p q x y hp hpq (by have := (List.getElem?_eq_some_iff.1 hy).1; omega) hx hy
theorem segs_out {α : Type} {le : α → α → Prop} {l : List α} {a b : Nat} (h : l.length ≤ a) : SegS le l a b := fun p q x y hp hpq _ hx hy => by have := (List.getElem?_eq_some_iff.1 hx).1; omega
theorem dvd_two {d s : Nat} (h : 2 * d ∣ s) : d ∣ s := Nat.dvd_trans ⟨2, by omega⟩ h
/-- blocks of this length, as far as a, and what has come to be sorted from a on -/
theorem blocks_all {α : Type} {le : α → α → Prop} {L L2 : List α} {d a M : Nat} (hd : 0 < d) (hda : d ∣ a) (hl : L2.length = M) (hM : M < a + d) (hb : ∀ s, d ∣ s → s + d ≤ a → SegS le L s (s + d)) (hsp : ∀ p, p < a → L2[p]? = L[p]?) (hs : SegS le L2 a M) :
    ∀ s, d ∣ s → SegS le L2 s (s + d) := by
  intro s hds
  rcases Nat.lt_trichotomy s a with q | q | q
  · have h1 := dvd_step hds hda q
    exact (hb s hds h1).eq fun p _ hp => hsp p (by omega)
  · subst q; exact segs_len hs hl
  · have h1 := dvd_step hda hds q
    exact segs_out (by omega)

set_option maxHeartbeats 1000000 in
theorem stable_spec (D : List (Gm Str)) (v : Value) (M : Nat) (l : List (Gm Str)) (hlen : l.length = M) (hM : M ≤ 1000000) (hD : ∀ x ∈ l, x ∈ D) : FnH Tryz.prog 54 #[v, iv (M : Nat), .func (.func 39) #[] #[]] [row v 58 2 M (rows (gR Str) l), dat (gall strR D)] (fun u H' => ∃ l', u = .tuple #[] ∧ l'.Perm l ∧ SegS leG l' 0 M ∧ H' = [row v 58 2 M (rows (gR Str) l'), dat (gall strR D)]) := by
  refine FnH.body (args := [v, iv (M : Nat), .func (.func 39) #[] #[]]) 63 Tryz.func54 rfl Tryz.ntmps54 rfl (fun c => ?_)
  refine St.seq ?_
  refine St.rg ?_
  refine St.ev _ (Ev.assign (Opd.mk rfl)) rfl ?_
  refine St.nil ?_
  refine St.then_normal ?_
  refine St.seq ?_
  refine St.rg ?_
  refine St.ev _ (Ev.move (Opd.mk rfl)) rfl ?_
  refine St.ev _ (Ev.assign (Opd.mk rfl)) rfl ?_
  refine St.ev _ (Ev.assign (Opd.mk rfl)) rfl ?_
  refine St.nil ?_
  refine St.then_normal ?_
  refine St.seq ?_
  refine St.block ?_
  refine St.loopH (ι := (Nat × Nat) × List (Gm Str)) (fun x T => (7, iv x.1.1) :: (8, iv x.1.2) :: T) (fun x => [row v 58 2 M (rows (gR Str) x.2), dat (gall strR D)]) (fun x => x.1.2 = x.1.1 + 20 ∧ 20 ∣ x.1.1 ∧ x.1.1 ≤ M ∧ x.2.Perm l ∧ ∀ s, 20 ∣ s → s + 20 ≤ x.1.1 → SegS leG x.2 s (s + 20)) (fun x => M - x.1.1) ((0, 20), l) (Keep.cons 0 rfl (Keep.cons 1 rfl (Keep.cons 2 rfl (Keep.cons 6 rfl Keep.nil)))) ⟨rfl, Nat.dvd_zero _, Nat.zero_le _, .refl _, fun s _ h => absurd h (by show ¬ s + 20 ≤ 0; omega)⟩ (by repeat (first | exact Sub.nil | refine Sub.cons (by first | rfl | exact congrArg (fun z => some (iv z)) (by first | omega | (dsimp only; omega)) | exact congrArg (fun z => some (Value.bool z)) (by first | assumption | exact Eq.symm (by assumption))) ?_)) (fun _ hw => hw.sub) ?_
  rintro ⟨⟨a, b⟩, L⟩ ⟨hab, hda, haM, hp, hb⟩
  dsimp only at hab hda haM hp hb ⊢
  have hll := hp.length_eq
  refine St.seq ?_
  refine St.seq ?_
  refine St.rg ?_
  refine St.ev _ (Ev.move (Opd.mk rfl)) rfl ?_
  refine St.ev _ (Ev.move (Opd.mk rfl)) rfl ?_
  refine St.ev _ (Ev.leq (Opd.mk rfl) (Opd.mk rfl)) rfl ?_
  refine St.nil ?_
  refine St.then_normal ?_
  refine St.cond _ rfl (fun h13 => ?_) (fun h13 => ?_)
  · skip
    try simp only [Bool.and_true, Bool.true_and, decide_eq_true_eq, decide_eq_false_iff_not, Bool.and_eq_true, Bool.or_eq_true, Bool.and_eq_false_iff, Bool.or_eq_false_iff, Bool.not_eq_true', Bool.not_eq_false', beq_iff_eq, beq_eq_false_iff_ne, Int.not_lt, Int.not_le] at h13
    refine St.skip ?_
    refine St.then_normal ?_
    refine St.block ?_
    refine St.seq ?_
    refine St.rg ?_
    refine St.ev _ (Ev.move (Opd.mk rfl)) rfl ?_
    refine St.ev _ (Ev.move (Opd.mk rfl)) rfl ?_
    refine St.ev _ (Ev.move (Opd.mk rfl)) rfl ?_
    refine St.ev _ (Ev.move (Opd.mk rfl)) rfl ?_
    refine St.call (insertion_spec D v M a b L (by omega) hM (fun x hx => hD x (hp.mem_iff.1 hx)) (by omega) (by omega)) cb86 (Opds.cons (Opd.mk rfl) (Opds.cons (Opd.mk rfl) (Opds.cons (Opd.mk rfl) (Opds.cons (Opd.mk rfl) Opds.nil)))) rfl ?_
    rintro v18 _ ⟨L2, rfl, hsp2, hss2, rfl⟩
    refine St.app2 ?_
    refine St.nil ?_
    refine St.then_normal ?_
    refine St.seq ?_
    refine St.rg ?_
    refine St.ev _ (Ev.move (Opd.mk rfl)) rfl ?_
    refine St.ev _ (Ev.assign (Opd.mk rfl)) rfl ?_
    refine St.nil ?_
    refine St.then_normal ?_
    refine St.rg ?_
    refine St.ev _ (Ev.move (Opd.mk rfl)) rfl ?_
    refine St.ev _ (Ev.move (Opd.mk rfl)) rfl ?_
    refine St.ev _ (Ev.add (Opd.mk rfl) (Opd.mk rfl) (by omega)) rfl ?_
    refine St.ev _ (Ev.assign (Opd.mk rfl)) rfl ?_
    refine St.nil ?_
    refine St.in_normal ?_
    refine St.then_normal ?_
    have hdb : 20 ∣ b := by rw [hab]; exact Nat.dvd_add hda (Nat.dvd_refl _)
    have hb2 : ∀ s, 20 ∣ s → s + 20 ≤ b → SegS leG L2 s (s + 20) := by
      intro s h1 h2
      rcases Nat.lt_or_ge s a with q | q
      · exact (hb s h1 (dvd_step h1 hda q)).eq fun p _ hp => hsp2.2 p (.inl (by have := dvd_step h1 hda q; omega))
      · obtain rfl : s = a := by omega
        rw [← hab]; exact hss2
    refine St.againH ((b, b + 20), L2) ⟨rfl, hdb, by show b ≤ M; omega, hsp2.1.trans hp, hb2⟩ (by show M - b < M - a; omega) (by repeat (first | exact Sub.nil | refine Sub.cons (by first | rfl | exact congrArg (fun z => some (iv z)) (by first | omega | (dsimp only; omega)) | exact congrArg (fun z => some (Value.bool z)) (by first | assumption | exact Eq.symm (by assumption))) ?_)) (fun _ hw => hw.sub)
  · skip
    try simp only [Bool.and_true, Bool.true_and, decide_eq_true_eq, decide_eq_false_iff_not, Bool.and_eq_true, Bool.or_eq_true, Bool.and_eq_false_iff, Bool.or_eq_false_iff, Bool.not_eq_true', Bool.not_eq_false', beq_iff_eq, beq_eq_false_iff_ne, Int.not_lt, Int.not_le] at h13
    refine St.exit ?_
    refine St.then_exit ?_
    refine St.then_exit ?_
    refine St.in_hit ?_
    refine St.then_normal ?_
    refine St.seq ?_
    refine St.rg ?_
    refine St.ev _ (Ev.move (Opd.mk rfl)) rfl ?_
    refine St.ev _ (Ev.move (Opd.mk rfl)) rfl ?_
    refine St.ev _ (Ev.move (Opd.mk rfl)) rfl ?_
    refine St.ev _ (Ev.move (Opd.mk rfl)) rfl ?_
    refine St.call (insertion_spec D v M a M L (by omega) hM (fun x hx => hD x (hp.mem_iff.1 hx)) (by omega) (by omega)) cb86 (Opds.cons (Opd.mk rfl) (Opds.cons (Opd.mk rfl) (Opds.cons (Opd.mk rfl) (Opds.cons (Opd.mk rfl) Opds.nil)))) rfl ?_
    rintro v27 _ ⟨L2, rfl, hsp2, hss2, rfl⟩
    refine St.app2 ?_
    have hall := blocks_all (by omega) hda (by rw [hsp2.len]; omega) (by omega) hb (fun p hp => hsp2.2 p (.inl hp)) hss2
    have hp2 := hsp2.1.trans hp
    refine St.nil ?_
    refine St.then_normal ?_
    refine St.block ?_
    refine St.loopH2 (ι := Nat) (κ := List (Gm Str)) (fun bs L4 T => (6, iv bs) :: T) (fun bs L4 => [row v 58 2 M (rows (gR Str) L4), dat (gall strR D)]) (fun bs L4 => 0 < bs ∧ bs ≤ 2000020 ∧ L4.Perm l ∧ ∀ s, bs ∣ s → SegS leG L4 s (s + bs)) (fun bs L4 => M - bs) 20 L2 (Keep.cons 0 rfl (Keep.cons 1 rfl (Keep.cons 2 rfl Keep.nil))) ⟨by omega, by omega, hp2, hall⟩ (by repeat (first | exact Sub.nil | refine Sub.cons (by first | rfl | exact congrArg (fun z => some (iv z)) (by first | omega | (dsimp only; omega)) | exact congrArg (fun z => some (Value.bool z)) (by first | assumption | exact Eq.symm (by assumption))) ?_)) (fun _ hw => hw.sub) ?_
    rintro bs L4 ⟨hbs, hbs2, hp4, hall4⟩
    have hll4 := hp4.length_eq
    refine St.seq ?_
    refine St.seq ?_
    refine St.rg ?_
    refine St.ev _ (Ev.move (Opd.mk rfl)) rfl ?_
    refine St.ev _ (Ev.move (Opd.mk rfl)) rfl ?_
    refine St.ev _ (Ev.lss (Opd.mk rfl) (Opd.mk rfl)) rfl ?_
    refine St.nil ?_
    refine St.then_normal ?_
    refine St.cond _ rfl (fun h30 => ?_) (fun h30 => ?_)
    · skip
      try simp only [Bool.and_true, Bool.true_and, decide_eq_true_eq, decide_eq_false_iff_not, Bool.and_eq_true, Bool.or_eq_true, Bool.and_eq_false_iff, Bool.or_eq_false_iff, Bool.not_eq_true', Bool.not_eq_false', beq_iff_eq, beq_eq_false_iff_ne, Int.not_lt, Int.not_le] at h30
      refine St.skip ?_
      refine St.then_normal ?_
      refine St.block ?_
      refine St.seq ?_
      refine St.rg ?_
      refine St.ev _ (Ev.move (Opd.mk rfl)) rfl ?_
      refine St.ev _ (Ev.mul (Opd.mk rfl) (Opd.mk rfl) (by omega)) rfl ?_
      refine St.slot 32 (iv ((2 * bs : Nat) : Int)) rfl (congrArg (fun z : Int => iv z) (by omega)) ?_
      refine St.ev _ (Ev.assign (Opd.mk rfl)) rfl ?_
      refine St.ev _ (Ev.assign (Opd.mk rfl)) rfl ?_
      refine St.nil ?_
      refine St.then_normal ?_
      refine St.seq ?_
      refine St.block ?_
      refine St.loopH (ι := (Nat × Nat) × List (Gm Str)) (fun x T => (7, iv x.1.1) :: (8, iv x.1.2) :: T) (fun x => [row v 58 2 M (rows (gR Str) x.2), dat (gall strR D)]) (fun x => x.1.2 = x.1.1 + 2 * bs ∧ 2 * bs ∣ x.1.1 ∧ x.1.1 ≤ M ∧ x.2.Perm l ∧ (∀ s, 2 * bs ∣ s → s + 2 * bs ≤ x.1.1 → SegS leG x.2 s (s + 2 * bs)) ∧ ∀ s, bs ∣ s → x.1.1 ≤ s → SegS leG x.2 s (s + bs)) (fun x => M - x.1.1) ((0, 2 * bs), L4) (Keep.cons 0 rfl (Keep.cons 1 rfl (Keep.cons 2 rfl (Keep.cons 6 rfl Keep.nil)))) ⟨(Nat.zero_add _).symm, Nat.dvd_zero _, Nat.zero_le _, hp4, fun s _ h => absurd h (by show ¬ s + 2 * bs ≤ 0; omega), fun s h _ => hall4 s h⟩ (by repeat (first | exact Sub.nil | refine Sub.cons (by first | rfl | exact congrArg (fun z => some (iv z)) (by first | omega | (dsimp only; omega)) | exact congrArg (fun z => some (Value.bool z)) (by first | assumption | exact Eq.symm (by assumption))) ?_)) (fun _ hw => hw.sub) ?_
      rintro ⟨⟨c, e⟩, L5⟩ ⟨hce, hdc, hcM, hp5, hb5, hr5⟩
      dsimp only at hce hdc hcM hp5 hb5 hr5 ⊢
      have hll5 := hp5.length_eq
      have hdc1 := dvd_two hdc
      have s1 := hr5 c hdc1 (Nat.le_refl _)
      have s2 := hr5 (c + bs) (Nat.dvd_add hdc1 (Nat.dvd_refl _)) (by omega)
      refine St.seq ?_
      refine St.seq ?_
      refine St.rg ?_
      refine St.ev _ (Ev.move (Opd.mk rfl)) rfl ?_
      refine St.ev _ (Ev.move (Opd.mk rfl)) rfl ?_
      refine St.ev _ (Ev.leq (Opd.mk rfl) (Opd.mk rfl)) rfl ?_
      refine St.nil ?_
      refine St.then_normal ?_
      refine St.cond _ rfl (fun h35 => ?_) (fun h35 => ?_)
      · skip
        try simp only [Bool.and_true, Bool.true_and, decide_eq_true_eq, decide_eq_false_iff_not, Bool.and_eq_true, Bool.or_eq_true, Bool.and_eq_false_iff, Bool.or_eq_false_iff, Bool.not_eq_true', Bool.not_eq_false', beq_iff_eq, beq_eq_false_iff_ne, Int.not_lt, Int.not_le] at h35
        refine St.skip ?_
        refine St.then_normal ?_
        refine St.block ?_
        refine St.seq ?_
        refine St.rg ?_
        refine St.ev _ (Ev.move (Opd.mk rfl)) rfl ?_
        refine St.ev _ (Ev.move (Opd.mk rfl)) rfl ?_
        refine St.ev _ (Ev.move (Opd.mk rfl)) rfl ?_
        refine St.ev _ (Ev.move (Opd.mk rfl)) rfl ?_
        refine St.ev _ (Ev.add (Opd.mk rfl) (Opd.mk rfl) (by omega)) rfl ?_
        refine St.ev _ (Ev.move (Opd.mk rfl)) rfl ?_
        refine St.ev _ (Ev.move (Opd.mk rfl)) rfl ?_
        refine St.call (symMerge_spec D v M (e - c) c (c + bs) e L5 rfl (by omega) hM (fun x hx => hD x (hp5.mem_iff.1 hx)) (by omega) (by omega) (by omega) s1 (s2.sub (Nat.le_refl _) (by omega))) cb87 (Opds.cons (Opd.mk rfl) (Opds.cons (Opd.mk rfl) (Opds.cons (Opd.mk rfl) (Opds.cons (Opd.mk rfl) (Opds.cons (Opd.mk rfl) Opds.nil))))) rfl ?_
        rintro v43 _ ⟨L3, rfl, hsp3, hss3, rfl⟩
        refine St.app2 ?_
        refine St.nil ?_
        refine St.then_normal ?_
        refine St.seq ?_
        refine St.rg ?_
        refine St.ev _ (Ev.move (Opd.mk rfl)) rfl ?_
        refine St.ev _ (Ev.assign (Opd.mk rfl)) rfl ?_
        refine St.nil ?_
        refine St.then_normal ?_
        refine St.rg ?_
        refine St.ev _ (Ev.move (Opd.mk rfl)) rfl ?_
        refine St.ev _ (Ev.move (Opd.mk rfl)) rfl ?_
        refine St.ev _ (Ev.mul (Opd.mk rfl) (Opd.mk rfl) (by omega)) rfl ?_
        refine St.slot 47 (iv ((2 * bs : Nat) : Int)) rfl (congrArg (fun z : Int => iv z) (by omega)) ?_
        refine St.ev _ (Ev.add (Opd.mk rfl) (Opd.mk rfl) (by omega)) rfl ?_
        refine St.ev _ (Ev.assign (Opd.mk rfl)) rfl ?_
        refine St.nil ?_
        refine St.in_normal ?_
        refine St.then_normal ?_
        have hde : 2 * bs ∣ e := by rw [hce]; exact Nat.dvd_add hdc (Nat.dvd_refl _)
        have hb6 : ∀ s, 2 * bs ∣ s → s + 2 * bs ≤ e → SegS leG L3 s (s + 2 * bs) := by
          intro s h1 h2
          rcases Nat.lt_or_ge s c with q | q
          · exact (hb5 s h1 (dvd_step h1 hdc q)).eq fun p _ hp => hsp3.2 p (.inl (by have := dvd_step h1 hdc q; omega))
          · obtain rfl : s = c := by omega
            rw [← hce]; exact hss3
        have hr6 : ∀ s, bs ∣ s → e ≤ s → SegS leG L3 s (s + bs) := fun s h1 h2 => (hr5 s h1 (by omega)).eq fun p hp _ => hsp3.2 p (.inr (by omega))
        refine St.againH ((e, e + 2 * bs), L3) ⟨rfl, hde, by show e ≤ M; omega, hsp3.1.trans hp5, hb6, hr6⟩ (by show M - e < M - c; omega) (by repeat (first | exact Sub.nil | refine Sub.cons (by first | rfl | exact congrArg (fun z => some (iv z)) (by first | omega | (dsimp only; omega)) | exact congrArg (fun z => some (Value.bool z)) (by first | assumption | exact Eq.symm (by assumption))) ?_)) (fun _ hw => hw.sub)
      · skip
        try simp only [Bool.and_true, Bool.true_and, decide_eq_true_eq, decide_eq_false_iff_not, Bool.and_eq_true, Bool.or_eq_true, Bool.and_eq_false_iff, Bool.or_eq_false_iff, Bool.not_eq_true', Bool.not_eq_false', beq_iff_eq, beq_eq_false_iff_ne, Int.not_lt, Int.not_le] at h35
        refine St.exit ?_
        refine St.then_exit ?_
        refine St.then_exit ?_
        refine St.in_hit ?_
        refine St.then_normal ?_
        refine St.join (ι := List (Gm Str)) (fun L6 T => T) (fun L6 => [row v 58 2 M (rows (gR Str) L6), dat (gall strR D)]) (fun L6 => L6.Perm l ∧ ∀ s, 2 * bs ∣ s → SegS leG L6 s (s + 2 * bs)) (Keep.cons 0 rfl (Keep.cons 1 rfl (Keep.cons 2 rfl (Keep.cons 6 rfl Keep.nil)))) ?_ ?_
        · skip
          refine St.seq ?_
          refine St.rg ?_
          refine St.ev _ (Ev.move (Opd.mk rfl)) rfl ?_
          refine St.ev _ (Ev.move (Opd.mk rfl)) rfl ?_
          refine St.ev _ (Ev.add (Opd.mk rfl) (Opd.mk rfl) (by omega)) rfl ?_
          refine St.ev _ (Ev.assign (Opd.mk rfl)) rfl ?_
          refine St.nil ?_
          refine St.then_normal ?_
          refine St.seq ?_
          refine St.rg ?_
          refine St.ev _ (Ev.move (Opd.mk rfl)) rfl ?_
          refine St.ev _ (Ev.move (Opd.mk rfl)) rfl ?_
          refine St.ev _ (Ev.lss (Opd.mk rfl) (Opd.mk rfl)) rfl ?_
          refine St.nil ?_
          refine St.then_normal ?_
          refine St.cond _ rfl (fun h54 => ?_) (fun h54 => ?_)
          · skip
            try simp only [Bool.and_true, Bool.true_and, decide_eq_true_eq, decide_eq_false_iff_not, Bool.and_eq_true, Bool.or_eq_true, Bool.and_eq_false_iff, Bool.or_eq_false_iff, Bool.not_eq_true', Bool.not_eq_false', beq_iff_eq, beq_eq_false_iff_ne, Int.not_lt, Int.not_le] at h54
            refine St.rg ?_
            refine St.ev _ (Ev.move (Opd.mk rfl)) rfl ?_
            refine St.ev _ (Ev.move (Opd.mk rfl)) rfl ?_
            refine St.ev _ (Ev.move (Opd.mk rfl)) rfl ?_
            refine St.ev _ (Ev.move (Opd.mk rfl)) rfl ?_
            refine St.ev _ (Ev.move (Opd.mk rfl)) rfl ?_
            refine St.call (symMerge_spec D v M (M - c) c (c + bs) M L5 rfl (by omega) hM (fun x hx => hD x (hp5.mem_iff.1 hx)) (by omega) (by omega) (by omega) s1 (s2.sub (Nat.le_refl _) (by omega))) cb87 (Opds.cons (Opd.mk rfl) (Opds.cons (Opd.mk rfl) (Opds.cons (Opd.mk rfl) (Opds.cons (Opd.mk rfl) (Opds.cons (Opd.mk rfl) Opds.nil))))) rfl ?_
            rintro v60 _ ⟨L3, rfl, hsp3, hss3, rfl⟩
            refine St.app2 ?_
            refine St.nil ?_
            refine St.then_normal ?_
            refine St.met L3 ⟨hsp3.1.trans hp5, blocks_all (by omega) hdc (by rw [hsp3.len]; omega) (by omega) hb5 (fun p hp => hsp3.2 p (.inl hp)) hss3⟩ (by repeat (first | exact Sub.nil | refine Sub.cons (by first | rfl | exact congrArg (fun z => some (iv z)) (by first | omega | (dsimp only; omega)) | exact congrArg (fun z => some (Value.bool z)) (by first | assumption | exact Eq.symm (by assumption))) ?_)) (fun _ hw => hw.sub)
          · skip
            try simp only [Bool.and_true, Bool.true_and, decide_eq_true_eq, decide_eq_false_iff_not, Bool.and_eq_true, Bool.or_eq_true, Bool.and_eq_false_iff, Bool.or_eq_false_iff, Bool.not_eq_true', Bool.not_eq_false', beq_iff_eq, beq_eq_false_iff_ne, Int.not_lt, Int.not_le] at h54
            refine St.skip ?_
            refine St.then_normal ?_
            refine St.met L5 ⟨hp5, blocks_all (by omega) hdc (by omega) (by omega) hb5 (fun p _ => rfl) (s1.sub (Nat.le_refl _) (by omega))⟩ (by repeat (first | exact Sub.nil | refine Sub.cons (by first | rfl | exact congrArg (fun z => some (iv z)) (by first | omega | (dsimp only; omega)) | exact congrArg (fun z => some (Value.bool z)) (by first | assumption | exact Eq.symm (by assumption))) ?_)) (fun _ hw => hw.sub)
        · skip
          rintro L6 ⟨hp6, hall6⟩
          refine St.rg ?_
          refine St.ev _ (Ev.move (Opd.mk rfl)) rfl ?_
          refine St.ev _ (Ev.mul (Opd.mk rfl) (Opd.mk rfl) (by omega)) rfl ?_
          refine St.slot 62 (iv ((2 * bs : Nat) : Int)) rfl (congrArg (fun z : Int => iv z) (by omega)) ?_
          refine St.ev _ (Ev.assign (Opd.mk rfl)) rfl ?_
          refine St.nil ?_
          refine St.in_normal ?_
          refine St.then_normal ?_
          refine St.againH2 (2 * bs) L6 ⟨by omega, by omega, hp6, hall6⟩ (by omega) (by repeat (first | exact Sub.nil | refine Sub.cons (by first | rfl | exact congrArg (fun z => some (iv z)) (by first | omega | (dsimp only; omega)) | exact congrArg (fun z => some (Value.bool z)) (by first | assumption | exact Eq.symm (by assumption))) ?_)) (fun _ hw => hw.sub)
    · skip
      try simp only [Bool.and_true, Bool.true_and, decide_eq_true_eq, decide_eq_false_iff_not, Bool.and_eq_true, Bool.or_eq_true, Bool.and_eq_false_iff, Bool.or_eq_false_iff, Bool.not_eq_true', Bool.not_eq_false', beq_iff_eq, beq_eq_false_iff_ne, Int.not_lt, Int.not_le] at h30
      have hfin : SegS leG L4 0 M := (hall4 0 (Nat.dvd_zero _)).sub (Nat.le_refl _) (by omega)
      refine St.exit ?_
      refine St.then_exit ?_
      refine St.then_exit ?_
      refine St.in_hit ?_
      refine St.rets_normal ?_
      refine St.rets [] [row v 58 2 M (rows (gR Str) L4), dat (gall strR D)] Tryz.results54 trivial ?_ (fun _ hw => hw.sub)
      exact ⟨L4, rfl, hp4, hfin, rfl⟩

theorem sortStable_spec (D : List (Gm Str)) (v : Value) (M : Nat) (l : List (Gm Str)) (hlen : l.length = M) (hM : M ≤ 1000000) (hD : ∀ x ∈ l, x ∈ D) : FnH Tryz.prog 38 #[v, .func (.func 39) #[] #[]] [row v 58 2 M (rows (gR Str) l), dat (gall strR D)] (fun u H' => ∃ l', u = .tuple #[] ∧ l'.Perm l ∧ SegS leG l' 0 M ∧ H' = [row v 58 2 M (rows (gR Str) l'), dat (gall strR D)]) := by
  refine FnH.body (args := [v, .func (.func 39) #[] #[]]) 9 Tryz.func38 rfl Tryz.ntmps38 rfl (fun c => ?_)
  refine St.rg ?_
  refine St.ev _ (Ev.move (Opd.mk rfl)) rfl ?_
  refine St.ev _ (Ev.move (Opd.mk rfl)) rfl ?_
  refine St.ev _ (Ev.lenrow (Opd.mk rfl) Tryz.underlying54) rfl ?_
  refine St.ev _ (Ev.move (Opd.mk rfl)) rfl ?_
  refine St.call (stable_spec D v M l hlen hM hD) cb54 (Opds.cons (Opd.mk rfl) (Opds.cons (Opd.mk rfl) (Opds.cons (Opd.mk rfl) Opds.nil))) rfl ?_
  rintro v8 _ ⟨L, rfl, hp, hs, rfl⟩
  refine St.app2 ?_
  refine St.nil ?_
  refine St.rets_normal ?_
  refine St.rets [] [row v 58 2 M (rows (gR Str) L), dat (gall strR D)] Tryz.results38 trivial ?_ (fun _ hw => hw.sub)
  exact ⟨L, rfl, hp, hs, rfl⟩

end Go.Proofs.YtgikcbfdonjggaaGreatDoor

/-
  (YtgikcbfdonjggaaGreatDoorGrP)
  Plain facts of counting what stands side by side.
  Conditions: none.
-/
namespace Go.Proofs.YtgikcbfdonjggaaGreatDoor
open Go Go.J
set_option linter.unusedVariables false
set_option linter.unusedSectionVars false
set_option linter.unusedSimpArgs false
theorem snocR {α} {P : List α → Prop} (h0 : P []) (hs : ∀ l x, P l → P (l ++ [x])) (l : List α) : P l := by
  have h : ∀ r : List α, P r.reverse := by
    intro r
    induction r with
    | nil => exact h0
    | cons x r ih => rw [List.reverse_cons]; exact hs _ _ ih
  have := h l.reverse
  rwa [List.reverse_reverse] at this
section
variable {α : Type} [DecidableEq α]
/-- one more: it joins the last, or stands anew -/
def rlS (G : List (α × Nat)) (w : α) : List (α × Nat) := match G.getLast? with
  | some g => if g.1 = w then G.set (G.length - 1) (g.1, g.2 + 1) else G ++ [(w, 1)]
  | none => G ++ [(w, 1)]
def rl (V : List α) : List (α × Nat) := V.foldl rlS []
theorem rl_snoc (V : List α) (w : α) : rl (V ++ [w]) = rlS (rl V) w := by unfold rl; rw [List.foldl_append]; rfl
theorem rlS_eq {G : List (α × Nat)} {g : α × Nat} (h : G[G.length - 1]? = some g) : rlS G g.1 = G.set (G.length - 1) (g.1, g.2 + 1) := by
  unfold rlS; rw [List.getLast?_eq_getElem?, h]; simp
theorem rlS_ne {G : List (α × Nat)} {w : α} (h : ∀ g, G[G.length - 1]? = some g → g.1 ≠ w) : rlS G w = G ++ [(w, 1)] := by
  unfold rlS
  rw [List.getLast?_eq_getElem?]
  cases e : G[G.length - 1]? with
  | none => rfl
  | some g => simp [h g e]
/-- equals stand side by side -/
def Grp (V : List α) : Prop := ∀ (i j k : Nat) (x : α), i < j → j < k → V[i]? = some x → V[k]? = some x → V[j]? = some x
theorem Grp.left {V : List α} {w : α} (h : Grp (V ++ [w])) : Grp V := fun i j k x hij hjk hi hk => by
  have hkl := (List.getElem?_eq_some_iff.1 hk).1
  have := h i j k x hij hjk (by rw [List.getElem?_append_left (by omega)]; exact hi) (by rw [List.getElem?_append_left hkl]; exact hk)
  rwa [List.getElem?_append_left (by omega)] at this
theorem Grp.new {V : List α} {w : α} (h : Grp (V ++ [w])) (hl : V.getLast? ≠ some w) : w ∉ V := by
  intro hm
  obtain ⟨i, hi⟩ := List.mem_iff_getElem?.1 hm
  have hil := (List.getElem?_eq_some_iff.1 hi).1
  apply hl
  rw [List.getLast?_eq_getElem?]
  by_cases e : i = V.length - 1
  · rw [← e]; exact hi
  · have := h i (V.length - 1) V.length w (by omega) (by omega) (by rw [List.getElem?_append_left hil]; exact hi) (by rw [List.getElem?_append_right (Nat.le_refl _)]; simp)
    rwa [List.getElem?_append_left (by omega)] at this
structure RlOK (V : List α) (G : List (α × Nat)) : Prop where
  nodup : (G.map Prod.fst).Nodup
  cnt : ∀ g ∈ G, g.2 = V.count g.1
  all : ∀ w, w ∈ G.map Prod.fst ↔ w ∈ V
  last : (G.map Prod.fst).getLast? = V.getLast?
theorem rl_ok (V : List α) : Grp V → RlOK V (rl V) := by
  induction V using snocR with
  | h0 => exact fun _ => ⟨List.nodup_nil, fun g h => (by cases h), fun w => (by simp [rl]), rfl⟩
  | hs V w ih =>
    intro hg
    have h := ih hg.left
    rw [rl_snoc]
    by_cases hl : V.getLast? = some w
    · have h1 := h.last
      rw [hl, List.getLast?_map, Option.map_eq_some_iff] at h1
      obtain ⟨g, hgl, rfl⟩ := h1
      have hgi : (rl V)[(rl V).length - 1]? = some g := by rw [← List.getLast?_eq_getElem?]; exact hgl
      have hlt := (List.getElem?_eq_some_iff.1 hgi).1
      have hgm : g ∈ rl V := List.mem_of_getElem? hgi
      have hfst : ((rl V).set ((rl V).length - 1) (g.1, g.2 + 1)).map Prod.fst = (rl V).map Prod.fst := by
        rw [List.map_set]
        refine List.ext_getElem? fun i => ?_
        rw [List.getElem?_set]
        split
        · rename_i e
          subst e
          rw [if_pos (by rw [List.length_map]; exact hlt), List.getElem?_map, hgi]; rfl
        · rfl
      rw [rlS_eq hgi]
      refine ⟨by rw [hfst]; exact h.nodup, fun z hz => ?_, fun z => ?_, ?_⟩
      · obtain ⟨i, hi⟩ := List.mem_iff_getElem?.1 hz
        rw [List.getElem?_set] at hi
        by_cases e : (rl V).length - 1 = i
        · rw [if_pos e] at hi
          rw [if_pos hlt, Option.some.injEq] at hi
          subst hi
          rw [List.count_append, ← h.cnt g hgm]; simp
        · rw [if_neg e] at hi
          have hzm := List.mem_of_getElem? hi
          have hne : z.1 ≠ g.1 := by
            intro e2
            have hil := (List.getElem?_eq_some_iff.1 hi).1
            have a1 : ((rl V).map Prod.fst)[i]? = some g.1 := by rw [List.getElem?_map, hi]; exact congrArg some e2
            have a2 : ((rl V).map Prod.fst)[(rl V).length - 1]? = some g.1 := by rw [List.getElem?_map, hgi]; rfl
            exact e ((List.getElem?_inj (by rw [List.length_map]; exact hlt) h.nodup).1 (a2.trans a1.symm))
          rw [List.count_append, ← h.cnt z hzm, List.count_singleton]
          have : (g.1 == z.1) = false := by simpa using fun e => hne e.symm
          rw [this]; simp
      · rw [hfst, h.all, List.mem_append, List.mem_singleton]
        exact ⟨.inl, fun q => q.elim id fun e => e ▸ (h.all g.1).1 (List.mem_map_of_mem hgm)⟩
      · rw [hfst, h.last, hl]; simp
    · have hw := hg.new hl
      have hne : ∀ g, (rl V)[(rl V).length - 1]? = some g → g.1 ≠ w := fun g hgi e => hw ((h.all w).1 (e ▸ List.mem_map_of_mem (List.mem_of_getElem? hgi)))
      rw [rlS_ne hne]
      have hwG : w ∉ (rl V).map Prod.fst := fun q => hw ((h.all w).1 q)
      refine ⟨?_, fun z hz => ?_, fun z => ?_, ?_⟩
      · rw [List.map_append, List.nodup_append]
        refine ⟨h.nodup, by simp, fun a ha b hb e => ?_⟩
        simp at hb; subst hb; subst e; exact hwG ha
      · rcases List.mem_append.1 hz with q | q
        · rw [List.count_append, ← h.cnt z q, List.count_singleton]
          have : (w == z.1) = false := by simpa using fun e : w = z.1 => hwG (e ▸ List.mem_map_of_mem q)
          rw [this]; simp
        · rw [List.mem_singleton.1 q]
          rw [List.count_append, List.count_eq_zero.2 hw]; simp
      · rw [List.map_append, List.mem_append, h.all, List.mem_append]; simp
      · simp
/-- all together they are as many -/
theorem rl_sum (V : List α) : ((rl V).map Prod.snd).sum = V.length := by
  induction V using snocR with
  | h0 => rfl
  | hs V w ih =>
    rw [rl_snoc]
    by_cases hc : ∃ g, (rl V)[(rl V).length - 1]? = some g ∧ g.1 = w
    · obtain ⟨g, hgi, rfl⟩ := hc
      have hlt := (List.getElem?_eq_some_iff.1 hgi).1
      rw [rlS_eq hgi]
      obtain ⟨A, hA⟩ := List.getLast?_eq_some_iff.1 (by rw [List.getLast?_eq_getElem?, hgi] : (rl V).getLast? = some g)
      rw [hA] at ih ⊢
      have e1 : (A ++ [g]).length - 1 = A.length := by simp
      rw [e1, List.set_append_right _ _ (Nat.le_refl _), Nat.sub_self]
      simp at ih ⊢
      omega
    · rw [rlS_ne fun g h e => hc ⟨g, h, e⟩]
      simp [ih]
end
end Go.Proofs.YtgikcbfdonjggaaGreatDoor

/-
  (YtgikcbfdonjggaaGreatDoorGrQ)
  Plain facts of the windows of n words in an index's order.
  Conditions: none.
-/
namespace Go.Proofs.YtgikcbfdonjggaaGreatDoor
open Go Go.J
set_option linter.unusedVariables false
set_option linter.unusedSimpArgs false
theorem llt_mid : ∀ {n : Nat} {A B C : List Int}, llt A B = true → llt B C = true → A.take n = C.take n → n ≤ A.length → n ≤ C.length → B.take n = A.take n
  | 0, _, _, _, _, _, _, _, _ => by simp
  | n + 1, [], _, _, _, _, _, h, _ => by simp at h
  | n + 1, _ :: _, _, [], _, _, _, _, h => by simp at h
  | n + 1, x :: A, [], z :: C, h, _, _, _, _ => by simp [llt] at h
  | n + 1, x :: A, y :: B, z :: C, h1, h2, he, ha, hc => by
    simp only [List.take_succ_cons, List.cons.injEq] at he ⊢
    obtain ⟨rfl, he⟩ := he
    simp only [llt, Bool.or_eq_true, Bool.and_eq_true, decide_eq_true_eq] at h1 h2
    simp only [List.length_cons, Nat.add_le_add_iff_right] at ha hc
    rcases h1 with h1 | ⟨rfl, h1⟩
    · rcases h2 with h2 | ⟨rfl, h2⟩
      · omega
      · omega
    · rcases h2 with h2 | ⟨_, h2⟩
      · omega
      · exact ⟨rfl, llt_mid h1 h2 he ha hc⟩
/-- what lies from a place on: the rest of its sentence, then a zero -/
theorem pts_at (f : Str → Nat) : ∀ (l : List (List Str)) (i q : Nat) (h : Nat × Nat), (plcFrom i l)[q]? = some h → i ≤ h.1 ∧ ∃ s rest, l[h.1 - i]? = some s ∧ h.2 ≤ s.length ∧ (ptsOf f l).drop q = (s.drop h.2).map f ++ 0 :: rest
  | [], i, q, h, hq => by simp [plcFrom] at hq
  | s :: l, i, q, h, hq => by
    rw [plcFrom] at hq
    have e : ptsOf f (s :: l) = s.map f ++ 0 :: ptsOf f l := by simp [ptsOf]
    rcases Nat.lt_or_ge q (s.length + 1) with c | c
    · rw [List.getElem?_append_left (by simpa using c), List.getElem?_map, List.getElem?_range c] at hq
      simp only [Option.map_some, Option.some.injEq] at hq
      subst hq
      refine ⟨Nat.le_refl _, s, ptsOf f l, by simp, by show q ≤ s.length; omega, ?_⟩
      rw [e, List.drop_append_of_le_length (by rw [List.length_map]; omega), List.map_drop]
    · rw [List.getElem?_append_right (by simpa using c)] at hq
      simp only [List.length_map, List.length_range] at hq
      obtain ⟨h1, s', rest, h2, h3, h4⟩ := pts_at f l (i + 1) _ h hq
      refine ⟨by omega, s', rest, ?_, h3, ?_⟩
      · rw [show h.1 - i = (h.1 - (i + 1)) + 1 by omega, List.getElem?_cons_succ]; exact h2
      · rw [← h4, e, show q = (s.map f).length + (1 + (q - (s.length + 1))) by rw [List.length_map]; omega, ← List.drop_drop, List.drop_left, Nat.add_comm 1, List.drop_succ_cons]
        congr 1
        rw [List.length_map]; omega
def okW (l : List (List Str)) (n : Nat) (h : Nat × Nat) : Bool := decide (h.2 + n ≤ (l.getD h.1 []).length)
def winH (l : List (List Str)) (n : Nat) (h : Nat × Nat) : List Str := ((l.getD h.1 []).drop h.2).take n
def plOf (l : List (List Str)) (i : Nat) : Nat × Nat := (plcFrom 0 l).getD i (0, 0)
/-- the windows at these places, in this order -/
def winO (l : List (List Str)) (n : Nat) (O : List Nat) : List (List Str) := (O.filter fun i => okW l n (plOf l i)).map fun i => winH l n (plOf l i)
noncomputable def winsV (l : List (List Str)) (n : Nat) : List (List Str) := winO l n (sufOf (ints (numsOf l)))
theorem winO_step {l : List (List Str)} {n : Nat} {O : List Nat} {k i : Nat} (h : O[k]? = some i) : winO l n (O.take (k + 1)) = if okW l n (plOf l i) then winO l n (O.take k) ++ [winH l n (plOf l i)] else winO l n (O.take k) := by
  unfold winO
  rw [take_of_some h, List.filter_append, List.map_append]
  cases e : okW l n (plOf l i) <;> simp [e]
/-- a place's numbers are its window's -/
theorem win_key {l : List (List Str)} {n i : Nat} (hi : i < (numsOf l).length) (hok : okW l n (plOf l i) = true) : ((numsOf l).drop i).take n = (winH l n (plOf l i)).map (numOf (wordsOf l)) ∧ n ≤ ((numsOf l).drop i).length ∧ (0 : Nat) ∉ (winH l n (plOf l i)).map (numOf (wordsOf l)) := by
  have hlen := plc_length (numOf (wordsOf l)) l 0
  have hp : (plcFrom 0 l)[i]? = some (plOf l i) := some_getD (0, 0) (by rw [hlen]; exact hi)
  obtain ⟨_, s, rest, h1, h2, h3⟩ := pts_at (numOf (wordsOf l)) l 0 i _ hp
  rw [Nat.sub_zero] at h1
  have hg : l.getD (plOf l i).1 [] = s := by rw [List.getD_eq_getElem?_getD, h1]; rfl
  unfold okW at hok
  rw [hg, decide_eq_true_eq] at hok
  unfold winH
  rw [hg]
  refine ⟨?_, ?_, ?_⟩
  · show ((ptsOf _ l).drop i).take n = _
    rw [h3, List.take_append_of_le_length (by rw [List.length_map, List.length_drop]; omega), List.map_take]
  · show n ≤ ((ptsOf _ l).drop i).length
    rw [h3, List.length_append, List.length_map, List.length_drop]; omega
  · intro h0
    obtain ⟨w, hw, e⟩ := List.mem_map.1 h0
    exact numOf_mem (wordsOf_sst l) ((wordsOf_mem l w).2 ⟨s, List.mem_of_getElem? h1, List.mem_of_mem_drop (List.mem_of_mem_take hw)⟩) e
theorem ints_dropG (l : List Nat) (i : Nat) : (ints l).drop i = ints (l.drop i) := by show (l.map _).drop i = (l.drop i).map _; rw [List.map_drop]
theorem ints_takeG (l : List Nat) (i : Nat) : (ints l).take i = ints (l.take i) := by show (l.map _).take i = (l.take i).map _; rw [List.map_take]
theorem ints_injG : ∀ {a b : List Nat}, ints a = ints b → a = b
  | [], [], _ => rfl
  | [], _ :: _, h => by cases h
  | _ :: _, [], h => by cases h
  | x :: a, y :: b, h => by
    have h' : ((x : Int) :: ints a) = ((y : Int) :: ints b) := h
    rw [List.cons.injEq] at h'
    rw [ints_injG h'.2, show x = y by omega]
theorem wins_grp (l : List (List Str)) (n : Nat) : Grp (winsV l n) := by
  intro a b c x hab hbc ha hc
  have hs := sufOf_is (ints (numsOf l))
  generalize hO : sufOf (ints (numsOf l)) = O at hs
  have hpw : O.Pairwise (fun i j => llt ((ints (numsOf l)).drop i) ((ints (numsOf l)).drop j) = true) := by
    rw [List.pairwise_iff_getElem]
    intro i j hi hj hij
    have := hs.2 i j hij hj
    rwa [List.getD_eq_getElem?_getD, List.getElem?_eq_getElem hi, List.getD_eq_getElem?_getD, List.getElem?_eq_getElem hj] at this
  unfold winsV winO at *
  rw [hO] at ha hc ⊢
  generalize hF : O.filter (fun i => okW l n (plOf l i)) = F at ha hc ⊢
  have hpF : F.Pairwise (fun i j => llt ((ints (numsOf l)).drop i) ((ints (numsOf l)).drop j) = true) := hF ▸ hpw.filter _
  have hmF : ∀ i ∈ F, i < (numsOf l).length ∧ okW l n (plOf l i) = true := fun i hi => by
    rw [← hF, List.mem_filter] at hi
    have := List.mem_range.1 (hs.1.mem_iff.1 hi.1)
    rw [ints_length] at this
    exact ⟨this, hi.2⟩
  have hcl : c < F.length := by have := (List.getElem?_eq_some_iff.1 hc).1; rwa [List.length_map] at this
  obtain ⟨ia, hia⟩ : ∃ i, F[a]? = some i := ⟨_, List.getElem?_eq_getElem (by omega)⟩
  obtain ⟨ib, hib⟩ : ∃ i, F[b]? = some i := ⟨_, List.getElem?_eq_getElem (by omega)⟩
  obtain ⟨ic, hic⟩ : ∃ i, F[c]? = some i := ⟨_, List.getElem?_eq_getElem hcl⟩
  rw [List.getElem?_map, hia, Option.map_some, Option.some.injEq] at ha
  rw [List.getElem?_map, hic, Option.map_some, Option.some.injEq] at hc
  rw [List.getElem?_map, hib, Option.map_some, Option.some.injEq]
  have q : ∀ {u w i j}, u < w → F[u]? = some i → F[w]? = some j → llt ((ints (numsOf l)).drop i) ((ints (numsOf l)).drop j) = true := fun {u w i j} huw hi hj => by
    obtain ⟨h1, rfl⟩ := List.getElem?_eq_some_iff.1 hi
    obtain ⟨h2, rfl⟩ := List.getElem?_eq_some_iff.1 hj
    exact List.pairwise_iff_getElem.1 hpF u w h1 h2 huw
  obtain ⟨a1, a2⟩ := hmF ia (List.mem_of_getElem? hia)
  obtain ⟨b1, b2⟩ := hmF ib (List.mem_of_getElem? hib)
  obtain ⟨c1, c2⟩ := hmF ic (List.mem_of_getElem? hic)
  obtain ⟨ka, la, za⟩ := win_key a1 a2
  obtain ⟨kb, lb, zb⟩ := win_key b1 b2
  obtain ⟨kc, lc, zc⟩ := win_key c1 c2
  have hm := llt_mid (n := n) (q hab hia hib) (q hbc hib hic) (by rw [ints_dropG, ints_dropG, ints_takeG, ints_takeG, ka, kc, ha, hc]) (by rw [ints_dropG, ints_length]; exact la) (by rw [ints_dropG, ints_length]; exact lc)
  rw [ints_dropG, ints_dropG, ints_takeG, ints_takeG] at hm
  have hm2 := ints_injG hm
  rw [kb, ka] at hm2
  rw [← ha]
  exact map_inj_of numOf_inj hm2 za
end Go.Proofs.YtgikcbfdonjggaaGreatDoor

/-
  (YtgikcbfdonjggaaGreatDoorGrR)
  Plain facts of counting the windows of n words.
  Conditions: none.
-/
namespace Go.Proofs.YtgikcbfdonjggaaGreatDoor
open Go Go.J
set_option linter.unusedVariables false
set_option linter.unusedSimpArgs false
def cS (n : Nat) (p : List Str → Bool) (s : List Str) : Nat := (List.range (s.length + 1)).countP fun k => decide (k + n ≤ s.length) && p ((s.drop k).take n)
theorem plc_count (l : List (List Str)) (n : Nat) (p : List Str → Bool) : ∀ (l' : List (List Str)) (i : Nat), (∀ j, l'[j]? = l[i + j]?) → (plcFrom i l').countP (fun h => okW l n h && p (winH l n h)) = (l'.map (cS n p)).sum
  | [], _, _ => rfl
  | s :: l', i, h => by
    have hs : l.getD i [] = s := by
      have := h 0
      rw [Nat.add_zero] at this
      rw [List.getD_eq_getElem?_getD, ← this]; rfl
    rw [plcFrom, List.countP_append, plc_count l n p l' (i + 1) (fun j => by have := h (j + 1); rw [List.getElem?_cons_succ] at this; rw [this]; congr 1; omega), List.map_cons, List.sum_cons, List.countP_map]
    congr 1
    unfold cS
    refine List.countP_congr fun k _ => ?_
    show (okW l n (i, k) && p (winH l n (i, k))) = true ↔ _
    unfold okW winH
    rw [hs]
theorem win_count (l : List (List Str)) (n : Nat) (p : List Str → Bool) : (winsV l n).countP p = (l.map (cS n p)).sum := by
  have hs := (sufOf_is (ints (numsOf l))).1
  unfold winsV winO
  rw [List.countP_map, List.countP_filter]
  have h1 := hs.countP_eq (fun a => (p ∘ fun i => winH l n (plOf l i)) a && okW l n (plOf l a))
  rw [h1, ints_length, show (numsOf l).length = (plcFrom 0 l).length from (plc_length (numOf (wordsOf l)) l 0).symm, ← plc_count l n p l 0 (fun j => by rw [Nat.zero_add])]
  have h2 : (List.range (plcFrom 0 l).length).map (plOf l) = plcFrom 0 l := by
    refine List.ext_getElem? fun i => ?_
    rw [List.getElem?_map]
    rcases Nat.lt_or_ge i (plcFrom 0 l).length with c | c
    · rw [List.getElem?_range c]; exact (some_getD (0, 0) c).symm
    · rw [List.getElem?_eq_none (by simpa using c), List.getElem?_eq_none c]; rfl
  conv => rhs; rw [← h2]
  rw [List.countP_map]
  refine List.countP_congr fun k _ => ?_
  show _ ↔ (okW l n (plOf l k) && p (winH l n (plOf l k))) = true
  rw [Bool.and_comm]; rfl
theorem hits_sum (p : List Str) : ∀ (l : List (List Str)) (i : Nat), (hitsFrom p i l).length = (l.map fun s => (hitsIn p 0 s).length).sum
  | [], _ => rfl
  | s :: l, i => by
    rw [hitsFrom, List.length_append, hits_sum p l (i + 1), List.map_cons, List.sum_cons]
    simp [hitsIn]
theorem hitsIn_len (p s : List Str) : (hitsIn p 0 s).length = (List.range s.length).countP fun k => standsAt s k p := by
  unfold hitsIn; rw [List.length_map, List.countP_eq_length_filter]
theorem cS_last {n : Nat} (hn : 0 < n) (p : List Str → Bool) (s : List Str) : cS n p s = (List.range s.length).countP fun k => decide (k + n ≤ s.length) && p ((s.drop k).take n) := by
  unfold cS
  rw [List.range_succ, List.countP_append]
  have : decide (s.length + n ≤ s.length) = false := decide_eq_false (by omega)
  simp [this]
theorem cS_word {n : Nat} (hn : 0 < n) {w : List Str} (hw : w.length = n) (s : List Str) : cS n (fun v => v == w) s = (hitsIn w 0 s).length := by
  rw [cS_last hn, hitsIn_len]
  refine List.countP_congr fun k _ => ?_
  unfold standsAt
  rw [hw, Bool.and_eq_true, decide_eq_true_eq, decide_eq_true_eq, beq_iff_eq]
  refine ⟨fun h => h.2, fun h => ⟨?_, h⟩⟩
  have := congrArg List.length h
  rw [List.length_take, List.length_drop] at this
  omega
/-- a window stands as often as it is found -/
theorem win_hits {l : List (List Str)} {n : Nat} (hn : 0 < n) {w : List Str} (hw : w.length = n) : (winsV l n).count w = (hitsOf l w).length := by
  rw [List.count, win_count, hitsOf, hits_sum]
  congr 1
  exact List.map_congr_left fun s _ => cS_word hn hw s
theorem cS_all {n : Nat} (hn : 0 < n) (s : List Str) : cS n (fun _ => true) s = if n ≤ s.length then s.length - n + 1 else 0 := by
  unfold cS
  have key : ∀ m, m ≤ s.length + 1 → (List.range m).countP (fun k => decide (k + n ≤ s.length) && true) = min m (s.length + 1 - n) := by
    intro m
    induction m with
    | zero => intro _; simp
    | succ m ih =>
      intro hm
      rw [List.range_succ, List.countP_append, ih (by omega)]
      by_cases h : m + n ≤ s.length
      · simp [h]; omega
      · simp [h]; omega
  rw [key _ (Nat.le_refl _)]
  split <;> omega
theorem win_mem {l : List (List Str)} {n : Nat} {w : List Str} (h : w ∈ winsV l n) : w.length = n := by
  unfold winsV winO at h
  obtain ⟨i, hi, rfl⟩ := List.mem_map.1 h
  have := (List.mem_filter.1 hi).2
  unfold okW at this
  rw [decide_eq_true_eq] at this
  unfold winH
  rw [List.length_take, List.length_drop]; omega
theorem win_len {l : List (List Str)} {n : Nat} (hn : 0 < n) : (winsV l n).length = (l.map fun s => if n ≤ s.length then s.length - n + 1 else 0).sum := by
  have h := win_count l n (fun _ => true)
  rw [List.countP_true] at h
  rw [h]
  congr 1
  exact List.map_congr_left fun s _ => cS_all hn s
/-- where a part stands: at the head of a window that is longer by one, or at the end -/
def endOf (p s : List Str) : Nat := if p.length ≤ s.length ∧ standsAt s (s.length - p.length) p = true then 1 else 0
theorem cS_part {p : List Str} (hp : 0 < p.length) (s : List Str) : cS (p.length + 1) (fun v => standsAt v 0 p) s + endOf p s = (hitsIn p 0 s).length := by
  rw [cS_last (by omega), hitsIn_len]
  have stand : ∀ k, standsAt s k p = true → k + p.length ≤ s.length := fun k h => by
    unfold standsAt at h
    rw [decide_eq_true_eq] at h
    have := congrArg List.length h
    rw [List.length_take, List.length_drop] at this
    omega
  have key : ∀ m, m ≤ s.length → (List.range m).countP (fun k => decide (k + (p.length + 1) ≤ s.length) && standsAt ((s.drop k).take (p.length + 1)) 0 p) + (if s.length < m + p.length then endOf p s else 0) = (List.range m).countP fun k => standsAt s k p := by
    intro m
    induction m with
    | zero =>
      intro _
      rw [List.range_zero, List.countP_nil, List.countP_nil]
      split
      · unfold endOf; rw [if_neg (by omega)]
      · rfl
    | succ m ih =>
      intro hm
      have h := ih (by omega)
      rw [List.range_succ, List.countP_append, List.countP_append, List.countP_singleton, List.countP_singleton, ← h]
      have e1 : standsAt ((s.drop m).take (p.length + 1)) 0 p = standsAt s m p := by
        unfold standsAt
        rw [List.drop_zero, List.take_take, Nat.min_eq_left (by omega)]
      rw [e1]
      cases e : standsAt s m p with
      | false =>
        have : endOf p s = 0 ∨ ¬ (m + p.length = s.length) := by
          by_cases q : m + p.length = s.length
          · left; unfold endOf; rw [show s.length - p.length = m by omega, e]; simp
          · exact .inr q
        simp only [Bool.and_false, Bool.false_eq_true, if_false]
        split <;> split <;> omega
      | true =>
        have hle := stand m e
        by_cases q : m + p.length = s.length
        · have : endOf p s = 1 := by unfold endOf; rw [show s.length - p.length = m by omega, e, if_pos ⟨by omega, rfl⟩]
          have hd : decide (m + (p.length + 1) ≤ s.length) = false := decide_eq_false (by omega)
          rw [hd]
          simp only [Bool.false_and, Bool.false_eq_true, if_false, if_true]
          split <;> split <;> omega
        · have hd : decide (m + (p.length + 1) ≤ s.length) = true := decide_eq_true (by omega)
          rw [hd]
          simp only [Bool.true_and, if_true]
          split <;> split <;> omega
  have h := key s.length (Nat.le_refl _)
  rw [if_pos (by omega)] at h
  exact h
theorem win_part {l : List (List Str)} {p : List Str} (hp : 0 < p.length) : (winsV l (p.length + 1)).countP (fun v => standsAt v 0 p) + (l.map (endOf p)).sum = (hitsOf l p).length := by
  rw [win_count, hitsOf, hits_sum]
  induction l with
  | nil => rfl
  | cons s l ih =>
    simp only [List.map_cons, List.sum_cons]
    have := cS_part hp s
    omega
/-- the counts of those runs that have something -/
theorem rl_countP {α : Type} [DecidableEq α] (p : α → Bool) (V : List α) : (((rl V).filter fun g => p g.1).map Prod.snd).sum = V.countP p := by
  induction V using snocR with
  | h0 => rfl
  | hs V w ih =>
    rw [rl_snoc, List.countP_append, List.countP_singleton]
    by_cases hc : ∃ g, (rl V)[(rl V).length - 1]? = some g ∧ g.1 = w
    · obtain ⟨g, hgi, rfl⟩ := hc
      rw [rlS_eq hgi]
      obtain ⟨A, hA⟩ := List.getLast?_eq_some_iff.1 (by rw [List.getLast?_eq_getElem?, hgi] : (rl V).getLast? = some g)
      rw [hA] at ih ⊢
      have e1 : (A ++ [g]).length - 1 = A.length := by simp
      rw [e1, List.set_append_right _ _ (Nat.le_refl _), Nat.sub_self]
      cases e : p g.1 <;> simp [e] at ih ⊢ <;> omega
    · rw [rlS_ne fun g h e => hc ⟨g, h, e⟩]
      cases e : p w <;> simp [e, ih]
end Go.Proofs.YtgikcbfdonjggaaGreatDoor

/-
  (YtgikcbfdonjggaaGreatDoorG5)
  The walk of Grams.
  Conditions: none beyond the sizes.
-/
set_option maxRecDepth 20000
set_option linter.unusedSimpArgs false
set_option linter.unusedVariables false
namespace Go.Proofs.YtgikcbfdonjggaaGreatDoor
open Go Go.J

/-- words and count -/
abbrev prG (g : Gm Str) : List Str × Nat := (g.2.1, g.2.2)
theorem gset_map {X : List (Gm Str)} {g : Gm Str} {V : List (List Str)} (h : X.map prG = rl V) (hg : X[X.length - 1]? = some g) : (X.set (X.length - 1) (g.1, g.2.1, g.2.2 + 1)).map prG = rl (V ++ [g.2.1]) := by
  have h1 : (rl V)[(rl V).length - 1]? = some (prG g) := by rw [← h, List.length_map, List.getElem?_map, hg]; rfl
  have h2 := rlS_eq h1
  rw [rl_snoc]
  show _ = rlS (rl V) (prG g).1
  rw [h2, ← h, List.length_map, List.map_set]
theorem gnew_map {X : List (Gm Str)} {u : OneV} {w : List Str} {V : List (List Str)} (h : X.map prG = rl V) (hg : ∀ g, X[X.length - 1]? = some g → g.2.1 ≠ w) : (X ++ [(u, w, 1)]).map prG = rl (V ++ [w]) := by
  rw [rl_snoc, rlS_ne, List.map_append, h]
  · rfl
  · intro g hh
    rw [← h, List.length_map, List.getElem?_map, Option.map_eq_some_iff] at hh
    obtain ⟨g', hg', rfl⟩ := hh
    exact hg g' hg'
theorem rowG_set1 (g : Gm Str) (c : Nat) {l : List (Gm Str)} {k : Nat} (h : l[k]? = some g) : (rows (gR Str) l).set (k * 2 + 1) (iv (c : Nat)) = rows (gR Str) (l.set k (g.1, g.2.1, c)) := by
  rw [← rowG_set (g.1, g.2.1, c) l k]
  congr 1
  refine List.ext_getElem? fun i => ?_
  rw [List.getElem?_set]
  split
  · rename_i e; subst e
    rw [(rowG_get h).1, if_pos (List.getElem?_eq_some_iff.1 (rowG_get h).1).1]
  · rfl
theorem rowG_snoc {X : List (Gm Str)} {g : Gm Str} : rows (gR Str) X ++ [g.1.1, iv (g.2.2 : Nat)] = rows (gR Str) (X ++ [g]) := by rw [rows_snoc]; rfl
def grF (n : Int) : Int × Int := if n < 1 ∨ 12 < n then (3, -1) else (0, 0)
/-- what Grams lists -/
def GrOK (l : List (List Str)) (n : Int) (G : List (Gm Str)) : Prop := if n < 1 ∨ 12 < n then G = [] else (G.map prG).Perm (rl (winsV l n.toNat)) ∧ SegS leG G 0 G.length
theorem le_sumN : ∀ {l : List Nat} {x : Nat}, x ∈ l → x ≤ l.sum
  | [], _, h => by cases h
  | y :: l, x, h => by
    rw [List.sum_cons]
    rcases List.mem_cons.1 h with rfl | h
    · omega
    · have := le_sumN h; omega
theorem rl_one {X : List (Gm Str)} {g : Gm Str} {V : List (List Str)} (h : X.map prG = rl V) (hg : g ∈ X) : g.2.2 ≤ V.length := by
  rw [← rl_sum, ← h, List.map_map]
  exact le_sumN (List.mem_map.2 ⟨g, hg, rfl⟩)
theorem rl_len {α : Type} [DecidableEq α] (V : List α) : (rl V).length ≤ V.length := by
  induction V using snocR with
  | h0 => exact Nat.le_refl _
  | hs V w ih =>
    rw [rl_snoc, List.length_append, List.length_singleton]
    unfold rlS
    split
    · split
      · rw [List.length_set]; omega
      · rw [List.length_append, List.length_singleton]; omega
    · rw [List.length_append, List.length_singleton]; omega
theorem winO_len (l : List (List Str)) (n : Nat) (O : List Nat) : (winO l n O).length ≤ O.length := by unfold winO; rw [List.length_map]; exact List.length_filter_le ..

theorem EqualG_spec (v0 v1 : Value) (a b : List Str) : FnV Tryz.prog 37 #[v0, v1] [sl strR v0 a, sl strR v1 b] (.bool (decide (a = b))) := by
  refine FnV.body2 (args := [v0, v1]) 26 Tryz.func37 rfl Tryz.ntmps37 rfl (fun c => ?_)
  refine St.seq ?_
  refine St.wf v0 (fun hwf0 hlen0 => ?_)
  refine St.wf v1 (fun hwf1 hlen1 => ?_)
  refine St.rg ?_
  refine St.ev _ (Ev.assign (Opd.mk rfl)) rfl ?_
  refine St.nil ?_
  refine St.then_normal ?_
  refine St.seq ?_
  refine St.seq ?_
  refine St.rg ?_
  refine St.ev _ (Ev.move (Opd.mk rfl)) rfl ?_
  refine St.ev _ (Ev.lensl (Opd.mk rfl) Tryz.underlying23) rfl ?_
  refine St.ev _ (Ev.move (Opd.mk rfl)) rfl ?_
  refine St.ev _ (Ev.lensl (Opd.mk rfl) Tryz.underlying23) rfl ?_
  refine St.ev _ (Ev.neq (Opd.mk rfl) (Opd.mk rfl)) rfl ?_
  refine St.nil ?_
  refine St.then_normal ?_
  refine St.cond _ rfl (fun h10 => ?_) (fun h10 => ?_)
  · skip
    try simp only [Bool.and_true, Bool.true_and, decide_eq_true_eq, decide_eq_false_iff_not, Bool.and_eq_true, Bool.or_eq_true, Bool.and_eq_false_iff, Bool.or_eq_false_iff, Bool.not_eq_true', Bool.not_eq_false', beq_iff_eq, beq_eq_false_iff_ne, Int.not_lt, Int.not_le] at h10
    refine St.seq ?_
    refine St.rg ?_
    refine St.ev _ (Ev.assign (Opd.mk rfl)) rfl ?_
    refine St.nil ?_
    refine St.then_normal ?_
    refine St.rett ?_
    refine St.then_ret ?_
    refine St.rets [_] [] Tryz.results37 ⟨rfl, trivial⟩ ?_ (fun _ hw => hw.sub)
    exact be (by rw [eq_comm, decide_eq_false_iff_not]; rintro rfl; omega)
  · skip
    try simp only [Bool.and_true, Bool.true_and, decide_eq_true_eq, decide_eq_false_iff_not, Bool.and_eq_true, Bool.or_eq_true, Bool.and_eq_false_iff, Bool.or_eq_false_iff, Bool.not_eq_true', Bool.not_eq_false', beq_iff_eq, beq_eq_false_iff_ne, Int.not_lt, Int.not_le] at h10
    refine St.skip ?_
    refine St.then_normal ?_
    refine St.seq ?_
    refine St.seq ?_
    refine St.rg ?_
    refine St.ev _ (Ev.move (Opd.mk rfl)) rfl ?_
    refine St.ev _ (Ev.lensl (Opd.mk rfl) Tryz.underlying23) rfl ?_
    refine St.ev _ (Ev.move (Opd.mk rfl)) rfl ?_
    refine St.nil ?_
    refine St.then_normal ?_
    refine St.block ?_
    refine St.loopS (ι := Nat) (fun k T => (13, iv k) :: T) (fun k => k ≤ a.length ∧ a.take k = b.take k) (fun k => a.length - k) 0 (Keep.cons 0 rfl (Keep.cons 1 rfl (Keep.cons 12 rfl Keep.nil))) ⟨Nat.zero_le _, rfl⟩ (by repeat (first | exact Sub.nil | refine Sub.cons (by first | rfl | exact congrArg (fun z => some (iv z)) (by first | omega | (dsimp only; omega)) | exact congrArg (fun z => some (Value.bool z)) (by first | assumption | exact Eq.symm (by assumption))) ?_)) ?_
    intro k hphi
    obtain ⟨hk, hv⟩ := hphi
    refine St.seq ?_
    refine St.rg ?_
    refine St.ev _ (Ev.lss (Opd.mk rfl) (Opd.mk rfl)) rfl ?_
    refine St.nil ?_
    refine St.then_normal ?_
    refine St.seq ?_
    refine St.cond _ rfl (fun h14 => ?_) (fun h14 => ?_)
    · skip
      try simp only [Bool.and_true, Bool.true_and, decide_eq_true_eq, decide_eq_false_iff_not, Bool.and_eq_true, Bool.or_eq_true, Bool.and_eq_false_iff, Bool.or_eq_false_iff, Bool.not_eq_true', Bool.not_eq_false', beq_iff_eq, beq_eq_false_iff_ne, Int.not_lt, Int.not_le] at h14
      obtain ⟨x, hx⟩ := some_of_lt (show k < a.length by omega)
      obtain ⟨y, hy⟩ := some_of_lt (show k < b.length by omega)
      refine St.skip ?_
      refine St.then_normal ?_
      refine St.seq ?_
      refine St.block ?_
      refine St.seq ?_
      refine St.rg ?_
      refine St.ev _ (Ev.move (Opd.mk rfl)) rfl ?_
      refine St.ev _ (Ev.assign (Opd.mk rfl)) rfl ?_
      refine St.nil ?_
      refine St.then_normal ?_
      refine St.seq ?_
      refine St.rq mixed (by kernel_rfl) (Mm.drawn _ _) ?_
      refine Sq.ev _ (Ev.move (Opd.mk rfl)) rfl ?_
      refine Sq.ev _ (Ev.move (Opd.mk rfl)) rfl ?_
      refine Sq.ev _ (Ev.idxaddr  (Opd.mk rfl) (Opd.mk rfl) Tryz.underlying23 sz9 rfl (by omega)) rfl ?_
      refine Sq.ev _ (Ev.ld1 (Opd.mk rfl) hx Tryz.underlying9 trivial rfl) rfl ?_
      refine Sq.ev _ (Ev.move (Opd.mk rfl)) rfl ?_
      refine Sq.ev _ (Ev.move (Opd.mk rfl)) rfl ?_
      refine Sq.ev _ (Ev.idxaddr  (Opd.mk rfl) (Opd.mk rfl) Tryz.underlying23 sz9 rfl (by omega)) rfl ?_
      refine Sq.ev _ (Ev.ld1 (Opd.mk rfl) hy Tryz.underlying9 trivial rfl) rfl ?_
      refine Sq.ev _ (Ev.strne (Opd.mk rfl) (Opd.mk rfl)) rfl ?_
      refine Sq.nil ?_
      refine St.then_normal ?_
      refine St.cond _ rfl (fun h24 => ?_) (fun h24 => ?_)
      · skip
        skip
        refine St.seq ?_
        refine St.rg ?_
        refine St.ev _ (Ev.assign (Opd.mk rfl)) rfl ?_
        refine St.nil ?_
        refine St.then_normal ?_
        refine St.rett ?_
        refine St.in_ret ?_
        refine St.then_ret ?_
        refine St.then_ret ?_
        refine St.in_ret ?_
        refine St.then_ret ?_
        refine St.rets [_] [] Tryz.results37 ⟨rfl, trivial⟩ ?_ (fun _ hw => hw.sub)
        exact be (by rw [eq_comm, decide_eq_false_iff_not]; rintro rfl; rw [hx] at hy; simp only [Option.some.injEq] at hy; simp [hy] at h24)
      · skip
        skip
        refine St.skip ?_
        refine St.in_normal ?_
        refine St.then_normal ?_
        refine St.rg ?_
        refine St.ev _ (Ev.add (Opd.mk rfl) (Opd.mk rfl) (by omega)) rfl ?_
        refine St.ev _ (Ev.move (Opd.mk rfl)) rfl ?_
        refine St.nil ?_
        refine St.then_normal ?_
        refine St.againS (k + 1) ⟨by omega, by rw [take_of_some hx, take_of_some hy, hv, show x = y by simpa using h24]⟩ (by first | omega | (dsimp only; omega)) (by repeat (first | exact Sub.nil | refine Sub.cons (by first | rfl | exact congrArg (fun z => some (iv z)) (by first | omega | (dsimp only; omega)) | exact congrArg (fun z => some (Value.bool z)) (by first | assumption | exact Eq.symm (by assumption))) ?_)) (fun _ hw => hw.sub)
    · skip
      try simp only [Bool.and_true, Bool.true_and, decide_eq_true_eq, decide_eq_false_iff_not, Bool.and_eq_true, Bool.or_eq_true, Bool.and_eq_false_iff, Bool.or_eq_false_iff, Bool.not_eq_true', Bool.not_eq_false', beq_iff_eq, beq_eq_false_iff_ne, Int.not_lt, Int.not_le] at h14
      refine St.exit ?_
      refine St.then_exit ?_
      refine St.then_exit ?_
      refine St.in_hit ?_
      refine St.then_normal ?_
      refine St.seq ?_
      refine St.rg ?_
      refine St.ev _ (Ev.assign (Opd.mk rfl)) rfl ?_
      refine St.nil ?_
      refine St.then_normal ?_
      refine St.rett ?_
      refine St.rets [_] [] Tryz.results37 ⟨rfl, trivial⟩ ?_ (fun _ hw => hw.sub)
      exact be (by rw [eq_comm, decide_eq_true_eq]; rw [List.take_of_length_le (by omega), List.take_of_length_le (by omega)] at hv; exact hv)

set_option maxHeartbeats 4000000 in
theorem Grams_spec (vl vw vp vo vz : Value) (l : List (List Str)) (n : Int) (hc : Corp l) : FnH Tryz.prog 23 #[idxV vl vw vp vo vz, iv n] ([idxD vl vw vp vo vz l].map dat) (fun w H' => ∃ (u0 : Value) (G : List (Gm Str)), w = .tuple #[u0, fv (grF n)] ∧ u0.oneCell' = true ∧ GrOK l n G ∧ H' = [dat (sl (gR Str) u0 G), dat (gall strR G)]) := by
  refine FnH.body (args := [idxV vl vw vp vo vz, iv n]) 86 Tryz.func23 rfl Tryz.ntmps23 rfl (fun c => ?_)
  refine St.seq ?_
  refine St.cast (H' := [dat (idxD vl vw vp vo vz l)]) rfl ?_
  refine St.openD (idxD vl vw vp vo vz l) (fun _ : Unit => idxL vl vw vp vo vz l) (fun ρ h => ⟨(), h⟩) (fun _ => ?_)
  unfold idxL
  refine St.appl ?_
  have hnl := numsOf_len hc
  have hsl := suf_len (ints (numsOf l))
  rw [ints_length] at hsl
  have hzl := plc_length (numOf (wordsOf l)) l 0
  change (plcFrom 0 l).length = (numsOf l).length at hzl
  have hil := ints_length (sufOf (ints (numsOf l)))
  refine St.rg ?_
  refine St.boxA (Opd.mk rfl) rfl (fun b2 => ?_)
  refine St.ev _ (Ev.assign (Opd.mk rfl)) rfl ?_
  refine St.alloc zc30 rfl (fun b5 => ?_)
  refine St.nil ?_
  refine St.then_normal ?_
  refine St.seq ?_
  refine St.seq ?_
  refine St.rg ?_
  refine St.ev _ (Ev.move (Opd.mk rfl)) rfl ?_
  refine St.ev _ (Ev.lss (Opd.mk rfl) (Opd.mk rfl)) rfl ?_
  refine St.ev _ (Ev.move (Opd.mk rfl)) rfl ?_
  refine St.gf _ rfl rfl (fun hg => Ev.move (Opd.mk rfl)) rfl ?_
  refine St.gf _ rfl rfl (fun hg => Ev.gtr (Opd.gv rfl hg) (Opd.mk rfl)) rfl ?_
  refine St.ev _ (Ev.or (Opd.mk rfl) (fun hp => Opd.gv rfl hp)) rfl ?_
  refine St.nil ?_
  refine St.then_normal ?_
  refine St.cond _ rfl (fun h18 => ?_) (fun h18 => ?_)
  · skip
    try simp only [Bool.and_true, Bool.true_and, decide_eq_true_eq, decide_eq_false_iff_not, Bool.and_eq_true, Bool.or_eq_true, Bool.and_eq_false_iff, Bool.or_eq_false_iff, Bool.not_eq_true', Bool.not_eq_false', beq_iff_eq, beq_eq_false_iff_ne, Int.not_lt, Int.not_le] at h18
    have hgf : grF n = (3, -1) := by unfold grF; rw [if_pos (by omega)]
    refine St.seq ?_
    refine St.rg ?_
    refine St.ev _ (Ev.build (ps := [(0, (Operand.const (Value.int IntKind.i64 3))), (1, (Operand.const (Value.int IntKind.i64 (-1))))]) (Opds.cons (Opd.mk rfl) (Opds.cons (Opd.mk rfl) Opds.nil)) (fun w => bld30_0_1 rfl rfl w)) rfl ?_
    refine St.ev _ (Ev.assign (Opd.mk rfl)) rfl ?_
    refine St.storeA (Opd.mk rfl) (Opd.mk rfl) sz30 (by first | simp only [List.length_cons, List.length_nil] | rfl) rfl ?_
    refine St.nil ?_
    refine St.then_normal ?_
    refine St.rett ?_
    refine St.then_ret ?_
    refine St.fact (sl (gR Str) (.slice none 0 0) []) (fun ρ _ _ => sl_nil _ _) ?_
    refine St.fact (gall strR []) (fun ρ _ _ => fun x hx => by cases hx) ?_
    refine St.rets [_, _] [dat (sl (gR Str) (.slice none 0 0) []), dat (gall strR [])] Tryz.results23 ⟨rfl, ⟨⟨_, _, _, _, rfl, InB.mem, .inl ⟨⟨_, Tryz.underlying30⟩, sz30, rfl⟩⟩, trivial⟩⟩ ?_ (fun _ hw => hw.sub)
    rw [hgf]; exact ⟨_, [], rfl, rfl, by unfold GrOK; rw [if_pos (by omega)], rfl⟩
  · skip
    try simp only [Bool.and_true, Bool.true_and, decide_eq_true_eq, decide_eq_false_iff_not, Bool.and_eq_true, Bool.or_eq_true, Bool.and_eq_false_iff, Bool.or_eq_false_iff, Bool.not_eq_true', Bool.not_eq_false', beq_iff_eq, beq_eq_false_iff_ne, Int.not_lt, Int.not_le] at h18
    have hgf : grF n = (0, 0) := by unfold grF; rw [if_neg (by omega)]
    have hgo : ¬ (n < 1 ∨ 12 < n) := by omega
    obtain ⟨m, rfl⟩ : ∃ m : Nat, n = m := ⟨n.toNat, by omega⟩
    refine St.skip ?_
    refine St.then_normal ?_
    refine St.seq ?_
    refine St.rg ?_
    refine St.ev _ (Ev.assign (Opd.mk rfl)) rfl ?_
    refine St.nil ?_
    refine St.then_normal ?_
    refine St.seq ?_
    refine St.seq ?_
    refine St.rg ?_
    refine St.ev _ (Ev.fldb0 (Opd.mk rfl) fo28_3) rfl ?_
    refine St.ev _ (Ev.ldb (Opd.mk rfl) Tryz.underlying25 trivial (by rfl)) rfl ?_
    refine St.ev _ (Ev.lensl (Opd.mk rfl) Tryz.underlying25) rfl ?_
    refine St.ev _ (Ev.move (Opd.mk rfl)) rfl ?_
    refine St.nil ?_
    refine St.then_normal ?_
    refine St.block ?_
    refine St.nilrow 58 2 ?_
    refine St.rowEqN (.slice none 0 0) (show _ = ([] : List (Gm Str)).length from rfl) (show _ = rows (gR Str) [] from rfl) ?_
    refine St.fact (gall strR []) (fun ρ _ _ => fun x hx => by cases hx) ?_
    refine St.loopH2 (ι := Nat) (κ := Value × List (Gm Str)) (fun k z T => (23, iv k) :: (6, z.1) :: T) (fun k z => [row z.1 58 2 (z.2).length (rows (gR Str) (z.2)), dat (gall strR z.2), blk b2 (.cells [vl, vw, vp, vo, vz].toArray 28 (0, 0)), blk b5 (.cells [iv 0, iv 0].toArray 30 (0, 0)), dat (nsl strR vl l), dat (sl intR vo (ints (sufOf (ints (numsOf l))))), dat (sl hitR vz (plcFrom 0 l))]) (fun k z => k ≤ (sufOf (ints (numsOf l))).length ∧ z.1.oneCell' = true ∧ z.2.map prG = rl (winO l m ((sufOf (ints (numsOf l))).take k))) (fun k z => (sufOf (ints (numsOf l))).length - k) 0 (.slice none 0 0, []) (Keep.cons 1 rfl (Keep.cons 2 rfl (Keep.cons 4 rfl (Keep.cons 5 rfl (Keep.cons 21 rfl (Keep.cons 22 rfl Keep.nil)))))) ⟨Nat.zero_le _, rfl, rfl⟩ (by repeat (first | exact Sub.nil | refine Sub.cons (by first | rfl | exact congrArg (fun z => some (iv z)) (by first | omega | (dsimp only; omega)) | exact congrArg (fun z => some (Value.bool z)) (by first | assumption | exact Eq.symm (by assumption))) ?_)) (fun _ hw => hw.sub) ?_
    rintro k ⟨v6, X⟩ ⟨hk, hv6, hX⟩
    dsimp only at hv6 hX ⊢
    have hXl : X.length ≤ 1300 := by
      have h1 := congrArg List.length hX
      rw [List.length_map] at h1
      have h2 := rl_len (winO l m ((sufOf (ints (numsOf l))).take k))
      have h3 := winO_len l m ((sufOf (ints (numsOf l))).take k)
      rw [List.length_take] at h3
      omega
    refine St.seq ?_
    refine St.rg ?_
    refine St.ev _ (Ev.lss (Opd.mk rfl) (Opd.mk rfl)) rfl ?_
    refine St.nil ?_
    refine St.then_normal ?_
    refine St.seq ?_
    refine St.cond _ rfl (fun h24 => ?_) (fun h24 => ?_)
    · skip
      try simp only [Bool.and_true, Bool.true_and, decide_eq_true_eq, decide_eq_false_iff_not, Bool.and_eq_true, Bool.or_eq_true, Bool.and_eq_false_iff, Bool.or_eq_false_iff, Bool.not_eq_true', Bool.not_eq_false', beq_iff_eq, beq_eq_false_iff_ne, Int.not_lt, Int.not_le] at h24
      obtain ⟨oi, hoi⟩ := some_of_lt (show k < (sufOf (ints (numsOf l))).length by omega)
      have hoi2 : (ints (sufOf (ints (numsOf l))))[k]? = some (oi : Int) := by rw [List.getElem?_map, hoi]; rfl
      have hol := List.mem_range.1 ((sufOf_is (ints (numsOf l))).1.mem_iff.1 (List.mem_of_getElem? hoi))
      rw [ints_length] at hol
      have hpl : (plcFrom 0 l)[oi]? = some (plOf l oi) := some_getD (0, 0) (by rw [hzl]; exact hol)
      obtain ⟨_, s, _, hs, hs2, _⟩ := pts_at (numOf (wordsOf l)) l 0 oi _ hpl
      rw [Nat.sub_zero] at hs
      have hs12 := mem_get hc hs
      have hgd := getD_of_some (d := ([] : List Str)) hs
      have hlt := lt_of_some hs
      refine St.openNs vl (fun vs hvl => ?_)
      refine St.ptwWf vs hvl (fun hwfl => ?_)
      obtain ⟨u, hu⟩ := some_of_lt (show (plOf l oi).1 < vs.length by omega)
      refine St.ptw (vs := vs) (plOf l oi).1 hu hs ?_
      have hsw := hwfl s (List.mem_of_getElem? hs)
      have hstep := winO_step (l := l) (n := m) hoi
      have hokw : okW l m (plOf l oi) = decide ((plOf l oi).2 + m ≤ s.length) := by unfold okW; rw [hgd]
      have hwin : (winH l m (plOf l oi)) = (s.drop (plOf l oi).2).take m := by unfold winH; rw [hgd]
      refine St.skip ?_
      refine St.then_normal ?_
      refine St.seq ?_
      refine St.block ?_
      refine St.seq ?_
      refine St.rg ?_
      refine St.ev _ (Ev.idxaddr (k := k) (Opd.mk rfl) (Opd.mk rfl) Tryz.underlying25 sz3 (by omega) (by omega)) rfl ?_
      refine St.ev _ (Ev.ld1 (Opd.mk rfl) hoi2 Tryz.underlying3 trivial rfl) rfl ?_
      refine St.ev _ (Ev.assign (Opd.mk rfl)) rfl ?_
      refine St.nil ?_
      refine St.then_normal ?_
      refine St.seq ?_
      refine St.rg ?_
      refine St.ev _ (Ev.fldb0 (Opd.mk rfl) fo28_4) rfl ?_
      refine St.ev _ (Ev.ldb (Opd.mk rfl) Tryz.underlying26 trivial (by rfl)) rfl ?_
      refine St.ev _ (Ev.move (Opd.mk rfl)) rfl ?_
      refine St.ev _ (Ev.idxaddr (k := oi) (Opd.mk rfl) (Opd.mk rfl) Tryz.underlying26 sz67 (by omega) (by omega)) rfl ?_
      refine St.ev _ (Ev.ldA (Opd.mk rfl) hpl Tryz.underlying67 trivial sz67 Cel.eq) rfl ?_
      refine St.alloc zc67 rfl (fun b9 => ?_)
      refine St.storeA (Opd.mk rfl) (Opd.mk rfl) sz67 (by first | simp only [List.length_cons, List.length_nil] | rfl) rfl ?_
      refine St.nil ?_
      refine St.then_normal ?_
      refine St.seq ?_
      refine St.rg ?_
      refine St.ev _ (Ev.fldb0 (Opd.mk rfl) fo28_0) rfl ?_
      refine St.ev _ (Ev.ldb (Opd.mk rfl) Tryz.underlying22 trivial (by rfl)) rfl ?_
      refine St.ev _ (Ev.fldb0 (Opd.mk rfl) fo67_0) rfl ?_
      refine St.ev _ (Ev.ldb (Opd.mk rfl) Tryz.underlying3 trivial (by rfl)) rfl ?_
      refine St.ev _ (Ev.idxaddr (k := (plOf l oi).1) (Opd.mk rfl) (Opd.mk rfl) Tryz.underlying22 sz23 (by omega) (by omega)) rfl ?_
      refine St.ev _ (Ev.ld1 (Opd.mk rfl) hu Tryz.underlying23 trivial rfl) rfl ?_
      refine St.ev _ (Ev.assign (Opd.mk rfl)) rfl ?_
      refine St.nil ?_
      refine St.then_normal ?_
      refine St.seq ?_
      refine St.seq ?_
      refine St.rg ?_
      refine St.ev _ (Ev.fldb0 (Opd.mk rfl) fo67_1) rfl ?_
      refine St.ev _ (Ev.ldb (Opd.mk rfl) Tryz.underlying3 trivial (by rfl)) rfl ?_
      refine St.ev _ (Ev.move (Opd.mk rfl)) rfl ?_
      refine St.ev _ (Ev.add (Opd.mk rfl) (Opd.mk rfl) (by omega)) rfl ?_
      refine St.ev _ (Ev.move (Opd.mk rfl)) rfl ?_
      refine St.ev _ (Ev.lensl (Opd.mk rfl) Tryz.underlying23) rfl ?_
      refine St.ev _ (Ev.gtr (Opd.mk rfl) (Opd.mk rfl)) rfl ?_
      refine St.nil ?_
      refine St.then_normal ?_
      refine St.cond _ rfl (fun h44 => ?_) (fun h44 => ?_)
      · skip
        try simp only [Bool.and_true, Bool.true_and, decide_eq_true_eq, decide_eq_false_iff_not, Bool.and_eq_true, Bool.or_eq_true, Bool.and_eq_false_iff, Bool.or_eq_false_iff, Bool.not_eq_true', Bool.not_eq_false', beq_iff_eq, beq_eq_false_iff_ne, Int.not_lt, Int.not_le] at h44
        rw [hokw, decide_eq_false (by omega)] at hstep
        rw [if_neg (by decide)] at hstep
        refine St.exit ?_
        refine St.then_exit ?_
        refine St.in_hit ?_
        refine St.then_normal ?_
        refine St.rg ?_
        refine St.ev _ (Ev.add (Opd.mk rfl) (Opd.mk rfl) (by omega)) rfl ?_
        refine St.ev _ (Ev.move (Opd.mk rfl)) rfl ?_
        refine St.nil ?_
        refine St.then_normal ?_
        refine St.againH2 (k + 1) (v6, X) ⟨by omega, hv6, by rw [hstep]; exact hX⟩ (by omega) (by repeat (first | exact Sub.nil | refine Sub.cons (by first | rfl | exact congrArg (fun z => some (iv z)) (by first | omega | (dsimp only; omega)) | exact congrArg (fun z => some (Value.bool z)) (by first | assumption | exact Eq.symm (by assumption))) ?_)) (fun _ hw => hw.sub)
      · skip
        try simp only [Bool.and_true, Bool.true_and, decide_eq_true_eq, decide_eq_false_iff_not, Bool.and_eq_true, Bool.or_eq_true, Bool.and_eq_false_iff, Bool.or_eq_false_iff, Bool.not_eq_true', Bool.not_eq_false', beq_iff_eq, beq_eq_false_iff_ne, Int.not_lt, Int.not_le] at h44
        rw [hokw, decide_eq_true (by omega), if_pos rfl] at hstep
        refine St.part u.1 (plOf l oi).2 ((plOf l oi).2 + m) (by omega) (by omega) ?_
        rw [show strR.size = 1 from rfl, Nat.add_sub_cancel_left, ← hwin]
        refine St.skip ?_
        refine St.then_normal ?_
        refine St.seq ?_
        refine St.rg ?_
        refine St.ev _ (Ev.move (Opd.mk rfl)) rfl ?_
        refine St.ev _ (Ev.fldb0 (Opd.mk rfl) fo67_1) rfl ?_
        refine St.ev _ (Ev.ldb (Opd.mk rfl) Tryz.underlying3 trivial (by rfl)) rfl ?_
        refine St.ev _ (Ev.fldb0 (Opd.mk rfl) fo67_1) rfl ?_
        refine St.ev _ (Ev.ldb (Opd.mk rfl) Tryz.underlying3 trivial (by rfl)) rfl ?_
        refine St.ev _ (Ev.move (Opd.mk rfl)) rfl ?_
        refine St.ev _ (Ev.add (Opd.mk rfl) (Opd.mk rfl) (by omega)) rfl ?_
        refine St.ev _ (Ev.slicesl (l := (plOf l oi).2) (h := ((plOf l oi).2 + m)) (Opd.mk rfl) (Opd.mk rfl) (Opd.mk rfl) Tryz.underlying23 sz9 (by omega) (by omega) (by omega) (by omega)) rfl ?_
        refine St.ev _ (Ev.assign (Opd.mk rfl)) rfl ?_
        refine St.nil ?_
        refine St.then_normal ?_
        refine St.seq ?_
        refine St.rg ?_
        refine St.ev _ (Ev.move (Opd.mk rfl)) rfl ?_
        refine St.ev _ (Ev.lenrow (Opd.mk rfl) Tryz.underlying54) rfl ?_
        refine St.ev _ (Ev.sub (Opd.mk rfl) (Opd.mk rfl) (by omega)) rfl ?_
        refine St.ev _ (Ev.assign (Opd.mk rfl)) rfl ?_
        refine St.nil ?_
        refine St.then_normal ?_
        refine St.seq ?_
        refine St.rg ?_
        refine St.ev _ (Ev.move (Opd.mk rfl)) rfl ?_
        refine St.ev _ (Ev.geq (Opd.mk rfl) (Opd.mk rfl)) rfl ?_
        refine St.split 57 _ rfl (fun hs57 => ?_) (fun hs57 => ?_)
        · skip
          have hpos : 0 < X.length := by have := of_decide_eq_true hs57; omega
          obtain ⟨g, hg⟩ := some_of_lt (show (X.length - 1) < X.length by omega)
          have hgm := List.mem_of_getElem? hg
          have hg1 := rl_one hX hgm
          have hg2 := winO_len l m ((sufOf (ints (numsOf l))).take k)
          rw [List.length_take] at hg2
          refine St.gget (Rr := strR) (D := X) g g hgm hgm ?_
          refine St.ev _ (Ev.move (Opd.mk rfl)) rfl ?_
          refine St.takeg rfl rfl ?_
          refine St.ev _ (Ev.move (Opd.mk rfl)) rfl ?_
          refine St.takeg rfl rfl ?_
          refine St.ev _ (Ev.move (Opd.mk rfl)) rfl ?_
          refine St.takeg rfl rfl ?_
          refine St.ev _ (Ev.idxaddrrow (k := (X.length - 1)) (Opd.mk rfl) (Opd.mk rfl) Tryz.underlying54 sz58 (by omega) (by omega)) rfl ?_
          refine St.takeg rfl rfl ?_
          refine St.ev _ (Ev.fldrow (Opd.mk rfl) (by omega) fo58_0) rfl ?_
          refine St.takeg rfl rfl ?_
          refine St.ev _ (Ev.ldrow (Opd.mk rfl) Tryz.underlying23 trivial (by omega) (rowG_get hg).1) rfl ?_
          refine St.takeg rfl rfl ?_
          refine St.ev _ (Ev.move (Opd.mk rfl)) rfl ?_
          refine St.takeg rfl rfl ?_
          refine St.ev _ (Ev.call (EqualG_spec g.1.1 (slv u.1 1 (plOf l oi).2 ((plOf l oi).2 + m)) g.2.1 (winH l m (plOf l oi))) cb37 (Opds.cons (Opd.mk rfl) (Opds.cons (Opd.mk rfl) Opds.nil))) rfl ?_
          refine St.ev _ (Ev.pickt (Opd.mk rfl) rfl (Opd.mk rfl)) rfl ?_
          refine St.nil ?_
          refine St.then_normal ?_
          refine St.cond _ rfl (fun h66 => ?_) (fun h66 => ?_)
          · skip
            try simp only [Bool.and_true, Bool.true_and, decide_eq_true_eq, decide_eq_false_iff_not, Bool.and_eq_true, Bool.or_eq_true, Bool.and_eq_false_iff, Bool.or_eq_false_iff, Bool.not_eq_true', Bool.not_eq_false', beq_iff_eq, beq_eq_false_iff_ne, Int.not_lt, Int.not_le] at h66
            refine St.rg ?_
            refine St.ev _ (Ev.move (Opd.mk rfl)) rfl ?_
            refine St.ev _ (Ev.move (Opd.mk rfl)) rfl ?_
            refine St.ev _ (Ev.idxaddrrow (k := (X.length - 1)) (Opd.mk rfl) (Opd.mk rfl) Tryz.underlying54 sz58 (by omega) (by omega)) rfl ?_
            refine St.ev _ (Ev.fldrow (Opd.mk rfl) (by omega) fo58_1) rfl ?_
            refine St.ev _ (Ev.ldrow (Opd.mk rfl) Tryz.underlying3 trivial (by omega) (rowG_get hg).2) rfl ?_
            refine St.ev _ (Ev.add (Opd.mk rfl) (Opd.mk rfl) (by omega)) rfl ?_
            refine St.ev _ (Ev.idxaddrrow (k := (X.length - 1)) (Opd.mk rfl) (Opd.mk rfl) Tryz.underlying54 sz58 (by omega) (by omega)) rfl ?_
            refine St.ev _ (Ev.fldrow (Opd.mk rfl) (by omega) fo58_1) rfl ?_
            refine St.storerow (Opd.mk rfl) (Opd.mk rfl) sz3 rfl (by omega) (by decide) ?_
            refine St.rowEqN v6 (show _ = (X.set (X.length - 1) (g.1, g.2.1, g.2.2 + 1)).length by rw [List.length_set]) (show _ = rows (gR Str) (X.set (X.length - 1) (g.1, g.2.1, g.2.2 + 1)) from rowG_set1 g (g.2.2 + 1) hg) ?_
            refine St.mkD (gall strR (X.set (X.length - 1) (g.1, g.2.1, g.2.2 + 1))) [gall strR X] (fun ρ h x hx => (List.mem_or_eq_of_mem_set hx).elim (fun q => h _ (List.mem_cons_self ..) x q) (fun q => by rw [q]; exact h _ (List.mem_cons_self ..) g hgm)) ?_
            refine St.nil ?_
            refine St.in_normal ?_
            refine St.then_normal ?_
            refine St.rg ?_
            refine St.ev _ (Ev.add (Opd.mk rfl) (Opd.mk rfl) (by omega)) rfl ?_
            refine St.ev _ (Ev.move (Opd.mk rfl)) rfl ?_
            refine St.nil ?_
            refine St.then_normal ?_
            refine St.againH2 (k + 1) (v6, X.set (X.length - 1) (g.1, g.2.1, g.2.2 + 1)) ⟨by omega, hv6, by rw [hstep, ← h66]; exact gset_map hX hg⟩ (by omega) (by repeat (first | exact Sub.nil | refine Sub.cons (by first | rfl | exact congrArg (fun z => some (iv z)) (by first | omega | (dsimp only; omega)) | exact congrArg (fun z => some (Value.bool z)) (by first | assumption | exact Eq.symm (by assumption))) ?_)) (fun _ hw => hw.sub)
          · skip
            try simp only [Bool.and_true, Bool.true_and, decide_eq_true_eq, decide_eq_false_iff_not, Bool.and_eq_true, Bool.or_eq_true, Bool.and_eq_false_iff, Bool.or_eq_false_iff, Bool.not_eq_true', Bool.not_eq_false', beq_iff_eq, beq_eq_false_iff_ne, Int.not_lt, Int.not_le] at h66
            refine St.rg ?_
            refine St.ev _ (Ev.move (Opd.mk rfl)) rfl ?_
            refine St.ev _ (Ev.move (Opd.mk rfl)) rfl ?_
            refine St.calld (CloneW_spec (slv u.1 1 (plOf l oi).2 ((plOf l oi).2 + m)) (winH l m (plOf l oi)) (by rw [hwin, List.length_take, List.length_drop]; omega)) cb27 (Opds.cons (Opd.mk rfl) Opds.nil) rfl ?_
            rintro v77 _ ⟨h77, rfl⟩
            refine St.app1 ?_
            refine St.publish v77 strR (winH l m (plOf l oi)) rfl rfl (by rw [hwin]; exact fun x hx => hsw x (slice_mem hx)) ?_
            refine St.ev _ (Ev.build (ps := [(0, (Operand.tmp 77)), (1, (Operand.const (Value.int IntKind.i64 1)))]) (Opds.cons (Opd.mk rfl) (Opds.cons (Opd.mk rfl) Opds.nil)) (fun w => bld58_0_1 h77 rfl w)) rfl ?_
            refine St.buildSl (xs := [(Operand.tmp 78)]) (ps := [(0, (Operand.tmp 78))]) rfl (Opds.cons (Opd.mk rfl) Opds.nil) Tryz.underlying54 sz58 zv58 rfl rfl (by simp [Value.cells]) rfl rfl (fun b79 => ?_)
            refine St.appendRow (Opd.mk rfl) (Opd.mk rfl) Tryz.underlying54 sz58 zv58 by58 (by intro y hy; simp [Value.cells] at hy; rcases hy with rfl | rfl; exact h77; rfl) (by omega) (by omega) rfl rfl rfl rfl (fun v80 hv80 => ?_)
            refine St.rowEqN v80 (show _ = (X ++ [((⟨v77, h77⟩ : OneV), (winH l m (plOf l oi)), (1 : Nat))]).length from len_snoc) (show _ = rows (gR Str) (X ++ [((⟨v77, h77⟩ : OneV), (winH l m (plOf l oi)), (1 : Nat))]) from rowG_snoc (g := ((⟨v77, h77⟩ : OneV), (winH l m (plOf l oi)), (1 : Nat)))) ?_
            refine St.rowOne v80 (fun h80 _ => ?_)
            refine St.mkD (gall strR (X ++ [((⟨v77, h77⟩ : OneV), (winH l m (plOf l oi)), (1 : Nat))])) [gall strR X, sl strR v77 (winH l m (plOf l oi))] (fun ρ h x hx => (List.mem_append.1 hx).elim (fun q => h _ (List.mem_cons_self ..) x q) fun q => by rw [List.mem_singleton.1 q]; exact h _ (List.mem_cons_of_mem _ (List.mem_cons_self ..))) ?_
            refine St.ev _ (Ev.assign (Opd.mk rfl)) rfl ?_
            refine St.nil ?_
            refine St.in_normal ?_
            refine St.then_normal ?_
            refine St.rg ?_
            refine St.ev _ (Ev.add (Opd.mk rfl) (Opd.mk rfl) (by omega)) rfl ?_
            refine St.ev _ (Ev.move (Opd.mk rfl)) rfl ?_
            refine St.nil ?_
            refine St.then_normal ?_
            have hnew : ∀ g, X[X.length - 1]? = some g → g.2.1 ≠ (winH l m (plOf l oi)) := by
              intro g1 hg1
              first | (rw [hX0] at hg1; cases hg1) | (rw [hg] at hg1; cases hg1; simpa using h66)
            refine St.againH2 (k + 1) (v80, X ++ [((⟨v77, h77⟩ : OneV), (winH l m (plOf l oi)), (1 : Nat))]) ⟨by omega, h80, by rw [hstep]; exact gnew_map hX hnew⟩ (by omega) (by repeat (first | exact Sub.nil | refine Sub.cons (by first | rfl | exact congrArg (fun z => some (iv z)) (by first | omega | (dsimp only; omega)) | exact congrArg (fun z => some (Value.bool z)) (by first | assumption | exact Eq.symm (by assumption))) ?_)) (fun _ hw => hw.sub)
        · skip
          have hX0 : X = [] := by cases X with
            | nil => rfl
            | cons x X => exfalso; have := of_decide_eq_false hs57; simp only [List.length_cons] at this; omega
          refine St.ev _ (Ev.move (Opd.mk rfl)) rfl ?_
          refine St.skipg rfl rfl rfl ?_
          refine St.skipg rfl rfl rfl ?_
          refine St.skipg rfl rfl rfl ?_
          refine St.skipg rfl rfl rfl ?_
          refine St.skipg rfl rfl rfl ?_
          refine St.skipg rfl rfl rfl ?_
          refine St.skipg rfl rfl rfl ?_
          refine St.ev _ (Ev.pickf (Opd.mk rfl) rfl (Opd.mk rfl)) rfl ?_
          refine St.nil ?_
          refine St.then_normal ?_
          refine St.condf _ rfl rfl ?_
          refine St.rg ?_
          refine St.ev _ (Ev.move (Opd.mk rfl)) rfl ?_
          refine St.ev _ (Ev.move (Opd.mk rfl)) rfl ?_
          refine St.calld (CloneW_spec (slv u.1 1 (plOf l oi).2 ((plOf l oi).2 + m)) (winH l m (plOf l oi)) (by rw [hwin, List.length_take, List.length_drop]; omega)) cb27 (Opds.cons (Opd.mk rfl) Opds.nil) rfl ?_
          rintro v77 _ ⟨h77, rfl⟩
          refine St.app1 ?_
          refine St.publish v77 strR (winH l m (plOf l oi)) rfl rfl (by rw [hwin]; exact fun x hx => hsw x (slice_mem hx)) ?_
          refine St.ev _ (Ev.build (ps := [(0, (Operand.tmp 77)), (1, (Operand.const (Value.int IntKind.i64 1)))]) (Opds.cons (Opd.mk rfl) (Opds.cons (Opd.mk rfl) Opds.nil)) (fun w => bld58_0_1 h77 rfl w)) rfl ?_
          refine St.buildSl (xs := [(Operand.tmp 78)]) (ps := [(0, (Operand.tmp 78))]) rfl (Opds.cons (Opd.mk rfl) Opds.nil) Tryz.underlying54 sz58 zv58 rfl rfl (by simp [Value.cells]) rfl rfl (fun b79 => ?_)
          refine St.appendRow (Opd.mk rfl) (Opd.mk rfl) Tryz.underlying54 sz58 zv58 by58 (by intro y hy; simp [Value.cells] at hy; rcases hy with rfl | rfl; exact h77; rfl) (by omega) (by omega) rfl rfl rfl rfl (fun v80 hv80 => ?_)
          refine St.rowEqN v80 (show _ = (X ++ [((⟨v77, h77⟩ : OneV), (winH l m (plOf l oi)), (1 : Nat))]).length from len_snoc) (show _ = rows (gR Str) (X ++ [((⟨v77, h77⟩ : OneV), (winH l m (plOf l oi)), (1 : Nat))]) from rowG_snoc (g := ((⟨v77, h77⟩ : OneV), (winH l m (plOf l oi)), (1 : Nat)))) ?_
          refine St.rowOne v80 (fun h80 _ => ?_)
          refine St.mkD (gall strR (X ++ [((⟨v77, h77⟩ : OneV), (winH l m (plOf l oi)), (1 : Nat))])) [gall strR X, sl strR v77 (winH l m (plOf l oi))] (fun ρ h x hx => (List.mem_append.1 hx).elim (fun q => h _ (List.mem_cons_self ..) x q) fun q => by rw [List.mem_singleton.1 q]; exact h _ (List.mem_cons_of_mem _ (List.mem_cons_self ..))) ?_
          refine St.ev _ (Ev.assign (Opd.mk rfl)) rfl ?_
          refine St.nil ?_
          refine St.in_normal ?_
          refine St.then_normal ?_
          refine St.rg ?_
          refine St.ev _ (Ev.add (Opd.mk rfl) (Opd.mk rfl) (by omega)) rfl ?_
          refine St.ev _ (Ev.move (Opd.mk rfl)) rfl ?_
          refine St.nil ?_
          refine St.then_normal ?_
          have hnew : ∀ g, X[X.length - 1]? = some g → g.2.1 ≠ (winH l m (plOf l oi)) := by
            intro g1 hg1
            first | (rw [hX0] at hg1; cases hg1) | (rw [hg] at hg1; cases hg1; simpa using h66)
          refine St.againH2 (k + 1) (v80, X ++ [((⟨v77, h77⟩ : OneV), (winH l m (plOf l oi)), (1 : Nat))]) ⟨by omega, h80, by rw [hstep]; exact gnew_map hX hnew⟩ (by omega) (by repeat (first | exact Sub.nil | refine Sub.cons (by first | rfl | exact congrArg (fun z => some (iv z)) (by first | omega | (dsimp only; omega)) | exact congrArg (fun z => some (Value.bool z)) (by first | assumption | exact Eq.symm (by assumption))) ?_)) (fun _ hw => hw.sub)
    · skip
      try simp only [Bool.and_true, Bool.true_and, decide_eq_true_eq, decide_eq_false_iff_not, Bool.and_eq_true, Bool.or_eq_true, Bool.and_eq_false_iff, Bool.or_eq_false_iff, Bool.not_eq_true', Bool.not_eq_false', beq_iff_eq, beq_eq_false_iff_ne, Int.not_lt, Int.not_le] at h24
      obtain rfl : k = (sufOf (ints (numsOf l))).length := by omega
      rw [List.take_length] at hX
      refine St.exit ?_
      refine St.then_exit ?_
      refine St.then_exit ?_
      refine St.in_hit ?_
      refine St.then_normal ?_
      refine St.seq ?_
      refine St.rg ?_
      refine St.ev _ (Ev.move (Opd.mk rfl)) rfl ?_
      refine St.call (sortStable_spec X v6 X.length X rfl (by omega) (fun x hx => hx)) cb38 (Opds.cons (Opd.mk rfl) (Opds.cons (Opd.mk rfl) Opds.nil)) rfl ?_
      rintro v83 _ ⟨L, rfl, hLp, hLs, rfl⟩
      refine St.app2 ?_
      have hLl := hLp.length_eq
      refine St.publish v6 (gR Str) L rfl hLl.symm (fun _ _ => trivial) ?_
      refine St.mkD (gall strR L) [gall strR X] (fun ρ h x hx => h _ (List.mem_cons_self ..) x (hLp.mem_iff.1 hx)) ?_
      refine St.nil ?_
      refine St.then_normal ?_
      refine St.seq ?_
      refine St.rg ?_
      refine St.ev _ (Ev.move (Opd.mk rfl)) rfl ?_
      refine St.ev _ (Ev.build (ps := []) (Opds.nil) (fun w => bld30_  w)) rfl ?_
      refine St.ev _ (Ev.assign (Opd.mk rfl)) rfl ?_
      refine St.storeA (Opd.mk rfl) (Opd.mk rfl) sz30 (by first | simp only [List.length_cons, List.length_nil] | rfl) rfl ?_
      refine St.nil ?_
      refine St.then_normal ?_
      refine St.rett ?_
      refine St.rets [_, _] [dat (sl (gR Str) v6 L), dat (gall strR L)] Tryz.results23 ⟨rfl, ⟨⟨_, _, _, _, rfl, InB.mem, .inl ⟨⟨_, Tryz.underlying30⟩, sz30, rfl⟩⟩, trivial⟩⟩ ?_ (fun _ hw => hw.sub)
      rw [hgf]; exact ⟨_, L, rfl, hv6, by unfold GrOK; rw [if_neg hgo, Int.toNat_natCast, hLl]; exact ⟨by have := hLp.map prG; rw [hX] at this; exact this, hLs⟩, rfl⟩

end Go.Proofs.YtgikcbfdonjggaaGreatDoor

/-
  (YtgikcbfdonjggaaGreatDoorG6)
  The laws of Grams.
  Conditions: none beyond the sizes.
-/
set_option maxRecDepth 20000
set_option linter.unusedSimpArgs false
set_option linter.unusedVariables false
namespace Go.Proofs.YtgikcbfdonjggaaGreatDoor
open Go Go.J

/-- the counts' sum -/
def cs (G : List (Gm Str)) : Nat := (G.map fun g => g.2.2).sum
theorem cs_step {G : List (Gm Str)} {k : Nat} {g : Gm Str} (h : G[k]? = some g) : cs (G.take (k + 1)) = cs (G.take k) + g.2.2 := by
  unfold cs; rw [take_of_some h]; simp
theorem cs_le (G : List (Gm Str)) (k : Nat) : cs (G.take k) ≤ cs G := by
  conv => rhs; rw [← List.take_append_drop k G]
  unfold cs; rw [List.map_append, List.sum_append]; omega
theorem cs_many : ∀ (X : List (Gm Str)), (∀ g ∈ X, g.2.2 ≠ 0) → X.length ≤ cs X
  | [], _ => Nat.zero_le _
  | x :: X, h => by
    have h1 := cs_many X fun g hg => h g (List.mem_cons_of_mem _ hg)
    have h2 := h x (List.mem_cons_self ..)
    unfold cs at h1 ⊢
    simp only [List.map_cons, List.sum_cons, List.length_cons]; omega
/-- what the grams are -/
structure GrFact (l : List (List Str)) (n : Nat) (G : List (Gm Str)) : Prop where
  one : ∀ g ∈ G, g.2.1.length = n ∧ g.2.2 = (hitsOf l g.2.1).length ∧ g.2.2 ≠ 0
  ord : ∀ (k : Nat) (g h : Gm Str), G[k]? = some g → G[k + 1]? = some h → h.2.2 ≤ g.2.2 ∧ (h.2.2 = g.2.2 → cww g.2.1 h.2.1 < 0)
  sum : cs G = (winsV l n).length
  part : ∀ p : List Str → Bool, cs (G.filter fun g => p g.2.1) = (winsV l n).countP p
theorem cs_map (G : List (Gm Str)) : cs G = ((G.map prG).map Prod.snd).sum := by unfold cs; rw [List.map_map]; rfl
theorem gr_fact {l : List (List Str)} {n : Nat} {G : List (Gm Str)} (hn : 0 < n) (hp : (G.map prG).Perm (rl (winsV l n))) (hs : SegS leG G 0 G.length) : GrFact l n G := by
  have hr := rl_ok _ (wins_grp l n)
  have hg : ∀ g ∈ G, prG g ∈ rl (winsV l n) := fun g hg => hp.mem_iff.1 (List.mem_map_of_mem hg)
  have hnd : (G.map fun g => g.2.1).Nodup := by
    have h1 := (hp.map Prod.fst).nodup_iff.2 hr.nodup
    rw [List.map_map] at h1
    exact h1
  refine ⟨fun g hm => ?_, fun k g h hk hk1 => ?_, ?_, fun p => ?_⟩
  · have hcc : ∀ x, @List.count (List Str) instBEqOfDecidableEq x (winsV l n) = @List.count (List Str) List.instBEq x (winsV l n) := fun x => by
      unfold List.count
      congr 1
      funext y
      rw [Bool.eq_iff_iff]
      refine Iff.trans (@beq_iff_eq _ instBEqOfDecidableEq _ y x) (@beq_iff_eq _ List.instBEq _ y x).symm
    have h1 : g.2.1 ∈ winsV l n := (hr.all _).1 (List.mem_map.2 ⟨prG g, hg g hm, rfl⟩)
    have h2 : g.2.2 = (winsV l n).count g.2.1 := (hr.cnt _ (hg g hm)).trans (hcc _)
    have h3 := win_mem h1
    refine ⟨h3, by rw [h2, win_hits hn h3], ?_⟩
    rw [h2]
    exact Nat.pos_iff_ne_zero.1 (List.count_pos_iff.2 h1)
  · have hlt := lt_of_some hk1
    have h1 := hs k (k + 1) g h (Nat.zero_le _) (Nat.lt_succ_self _) hlt hk hk1
    unfold leG at h1
    rw [cmG_iff] at h1
    have hne : g.2.1 ≠ h.2.1 := fun e => by
      have := (List.getElem?_inj (i := k) (j := k + 1) (by rw [List.length_map]; omega) hnd).1 (by rw [List.getElem?_map, List.getElem?_map, hk, hk1]; exact congrArg some e)
      omega
    refine ⟨?_, fun he => ?_⟩
    · rcases Nat.lt_or_ge g.2.2 h.2.2 with c | c
      · exact absurd (.inl c) h1
      · exact c
    · refine cww_lt ?_
      rcases wlt_tri g.2.1 h.2.1 with k | k | k
      · exact k
      · exact absurd k hne
      · exact absurd (.inr ⟨he, k⟩) h1
  · rw [cs_map, (hp.map Prod.snd).sum_nat, rl_sum]
  · rw [← rl_countP p, cs_map, ← (((hp.filter fun g => p g.1)).map Prod.snd).sum_nat, List.filter_map]
    rfl
theorem gr_case0 {i a b : Nat} {c : Int} (hor : 0 < i → a ≤ b ∧ (a = b → c < 0)) : (decide ((0 : Int) < (i : Nat)) && decide (((b : Nat) : Int) < (a : Nat))) = false := by
  rcases Nat.eq_zero_or_pos i with rfl | hi
  · rfl
  · have := (hor hi).1
    rw [Bool.and_eq_false_iff, decide_eq_false_iff_not, decide_eq_false_iff_not]; omega
theorem gr_case {i a b : Nat} {c : Int} (hor : 0 < i → a ≤ b ∧ (a = b → c < 0)) : ((decide ((0 : Int) < (i : Nat)) && decide (((a : Nat) : Int) = (b : Nat))) && decide (0 ≤ c)) = false := by
  rcases Nat.eq_zero_or_pos i with rfl | hi
  · rfl
  · have := (hor hi).2
    by_cases e : a = b
    · have := this e
      rw [decide_eq_false (show ¬ 0 ≤ c by omega), Bool.and_false]
    · rw [decide_eq_false (show ¬ ((a : Nat) : Int) = (b : Nat) by omega), Bool.and_false, Bool.false_and]
/-- so many windows has a sentence -/
def wn (n : Nat) (s : List Str) : Nat := if n ≤ s.length then s.length - n + 1 else 0
theorem wn_step {l : List (List Str)} {n k : Nat} {s : List Str} (h : l[k]? = some s) : ((l.take (k + 1)).map (wn n)).sum = ((l.take k).map (wn n)).sum + wn n s := by rw [take_of_some h]; simp
theorem wn_le (l : List (List Str)) (n k : Nat) : ((l.take k).map (wn n)).sum ≤ (l.map (wn n)).sum := by
  conv => rhs; rw [← List.take_append_drop k l]
  rw [List.map_append, List.sum_append]; omega
theorem wins_len {l : List (List Str)} {n : Nat} (hn : 0 < n) : (winsV l n).length = (l.map (wn n)).sum := win_len hn
theorem wins_le {l : List (List Str)} (hc : Corp l) (n : Nat) : (winsV l n).length ≤ 1300 := by
  have h1 := winO_len l n (sufOf (ints (numsOf l)))
  have h2 := suf_len (ints (numsOf l))
  rw [ints_length] at h2
  have h3 := numsOf_len hc
  show (winO l n _).length ≤ _
  omega
theorem en_step {l : List (List Str)} {p s : List Str} {k : Nat} (h : l[k]? = some s) : ((l.take (k + 1)).map (endOf p)).sum = ((l.take k).map (endOf p)).sum + endOf p s := by rw [take_of_some h]; simp
theorem en_le (l : List (List Str)) (p : List Str) (k : Nat) : ((l.take k).map (endOf p)).sum ≤ k := by
  induction k with
  | zero => exact Nat.le_refl _
  | succ k ih =>
    rcases Nat.lt_or_ge k l.length with hk | hk
    · rw [en_step (List.getElem?_eq_getElem hk)]
      have : endOf p l[k] ≤ 1 := by unfold endOf; split <;> omega
      omega
    · rw [List.take_of_length_le (by omega)]; rw [List.take_of_length_le hk] at ih; omega
def csp (p : List Str) (G : List (Gm Str)) : Nat := cs (G.filter fun g => standsAt g.2.1 0 p)
theorem csp_t {G : List (Gm Str)} {k : Nat} {g : Gm Str} {p : List Str} (h : G[k]? = some g) (hs : standsAt g.2.1 0 p = true) : csp p (G.take (k + 1)) = csp p (G.take k) + g.2.2 := by
  unfold csp cs; rw [take_of_some h, List.filter_append]; simp [hs]
theorem csp_f {G : List (Gm Str)} {k : Nat} {g : Gm Str} {p : List Str} (h : G[k]? = some g) (hs : standsAt g.2.1 0 p = false) : csp p (G.take (k + 1)) = csp p (G.take k) := by
  unfold csp cs; rw [take_of_some h, List.filter_append]; simp [hs]
theorem csp_le (p : List Str) (G : List (Gm Str)) (k : Nat) : csp p (G.take k) ≤ csp p G := by
  conv => rhs; rw [← List.take_append_drop k G]
  unfold csp cs; rw [List.filter_append, List.map_append, List.sum_append]; omega
theorem grok_t {l : List (List Str)} {n : Int} {G : List (Gm Str)} (h : GrOK l n G) (hn : n < 1 ∨ 12 < n) : G = [] := by unfold GrOK at h; rw [if_pos hn] at h; exact h
theorem grok_f {l : List (List Str)} {m : Nat} {G : List (Gm Str)} (h : GrOK l (m : Int) G) (hn : ¬ ((m : Int) < 1 ∨ 12 < (m : Int))) : GrFact l m G := by
  unfold GrOK at h; rw [if_neg hn, Int.toNat_natCast] at h; exact gr_fact (by omega) h.1 h.2

end Go.Proofs.YtgikcbfdonjggaaGreatDoor

/-
  (YtgikcbfdonjggaaGreatDoorG7)
  The law of Grams.
  Conditions: none beyond the sizes.
-/
set_option maxRecDepth 20000
set_option linter.unusedSimpArgs false
set_option linter.unusedVariables false
namespace Go.Proofs.YtgikcbfdonjggaaGreatDoor
open Go Go.J

set_option maxHeartbeats 4000000 in
theorem law6_spec (v0 : Value) (l : List (List Str)) (n : Int) : FnVw Tryz.prog 8 #[v0, iv n] [nsl strR v0 l, u8] (.bool true) := by
  refine FnVw.body (args := [v0, iv n]) (ds := [(nsl strR v0 l), u8]) 163 Tryz.func8 rfl Tryz.ntmps8 rfl (fun c hdr => ?_)
  change St _ _ (Mm c [dat (nsl strR v0 l), dat u8]) _
  refine St.seq ?_
  refine St.rg ?_
  refine St.ev _ (Ev.assign (Opd.mk rfl)) rfl ?_
  refine St.nil ?_
  refine St.then_normal ?_
  refine St.seq ?_
  refine St.seq ?_
  refine St.rg ?_
  refine St.ev _ (Ev.callW hdr ready_spec cb10 (Opds.nil)) rfl ?_
  refine St.ev _ (Ev.not (Opd.mk rfl)) rfl ?_
  refine St.nil ?_
  refine St.then_normal ?_
  refine St.condf _ rfl rfl ?_
  refine St.skip ?_
  refine St.then_normal ?_
  refine St.seq ?_
  refine St.rg ?_
  refine St.ev _ (Ev.move (Opd.mk rfl)) rfl ?_
  refine St.calldW hdr (Build_cspec v0 l) cb11 (Opds.cons (Opd.mk rfl) Opds.nil) rfl ?_
  rintro v16 _ ⟨vl, vw, vp, vo, vz, rfl, o1, o2, o3, o4, o5, rfl⟩
  refine St.app1 ?_
  have hcorp := okL_corp l
  refine St.ev _ (Ev.move (Opd.mk rfl)) rfl ?_
  refine St.ev _ (Ev.extract (Opd.mk rfl) rfl) rfl ?_
  refine St.ev _ (Ev.extract (Opd.mk rfl) rfl) rfl ?_
  refine St.alloc zc28 rfl (fun b5 => ?_)
  refine St.alloc zc30 rfl (fun b6 => ?_)
  refine St.storeA (Opd.mk rfl) (Opd.mk rfl) sz28 (by first | simp only [List.length_cons, List.length_nil] | rfl) (by simp [o1, o2, o3, o4, o5]) ?_
  refine St.storeA (Opd.mk rfl) (Opd.mk rfl) sz30 (by first | simp only [List.length_cons, List.length_nil] | rfl) rfl ?_
  refine St.nil ?_
  refine St.then_normal ?_
  refine St.seq ?_
  refine St.seq ?_
  refine St.rg ?_
  refine St.ev _ (Ev.fldb0 (Opd.mk rfl) fo30_0) rfl ?_
  refine St.ev _ (Ev.ldb (Opd.mk rfl) Tryz.underlying3 trivial (by rfl)) rfl ?_
  refine St.ev _ (Ev.neq (Opd.mk rfl) (Opd.mk rfl)) rfl ?_
  refine St.nil ?_
  refine St.then_normal ?_
  refine St.cond _ rfl (fun h21 => ?_) (fun h21 => ?_)
  · skip
    try simp only [Bool.and_true, Bool.true_and, decide_eq_true_eq, decide_eq_false_iff_not, Bool.and_eq_true, Bool.or_eq_true, Bool.and_eq_false_iff, Bool.or_eq_false_iff, Bool.not_eq_true', Bool.not_eq_false', beq_iff_eq, beq_eq_false_iff_ne, Int.not_lt, Int.not_le] at h21
    refine St.seq ?_
    refine St.rg ?_
    refine St.ev _ (Ev.assign (Opd.mk rfl)) rfl ?_
    refine St.nil ?_
    refine St.then_normal ?_
    refine St.rett ?_
    refine St.then_ret ?_
    refine St.rets [_] [] Tryz.results8 ⟨rfl, trivial⟩ ?_ (fun _ hw => hw.sub)
    exact be rfl
  · skip
    try simp only [Bool.and_true, Bool.true_and, decide_eq_true_eq, decide_eq_false_iff_not, Bool.and_eq_true, Bool.or_eq_true, Bool.and_eq_false_iff, Bool.or_eq_false_iff, Bool.not_eq_true', Bool.not_eq_false', beq_iff_eq, beq_eq_false_iff_ne, Int.not_lt, Int.not_le] at h21
    rw [okL_t (by omega)] at hcorp ⊢
    have hl100 := hcorp.len
    refine St.openNs v0 (fun vs hvl => ?_)
    refine St.ptwWf vs hvl (fun hwfl => ?_)
    refine St.skip ?_
    refine St.then_normal ?_
    refine St.seq ?_
    refine St.rg ?_
    refine St.ev _ (Ev.ldbA (Opd.mk rfl) Tryz.underlying28 trivial (by exact sz28)) rfl ?_
    refine St.ev _ (Ev.move (Opd.mk rfl)) rfl ?_
    refine St.calld (Grams_spec vl vw vp vo vz l n hcorp) cb23 (Opds.cons (Opd.mk rfl) (Opds.cons (Opd.mk rfl) Opds.nil)) rfl ?_
    rintro v25 _ ⟨ug, G, rfl, hug, hG, rfl⟩
    refine St.app2 ?_
    refine St.ev _ (Ev.move (Opd.mk rfl)) rfl ?_
    refine St.ev _ (Ev.extract (Opd.mk rfl) rfl) rfl ?_
    refine St.ev _ (Ev.extract (Opd.mk rfl) rfl) rfl ?_
    refine St.ev _ (Ev.assign (Opd.mk rfl)) rfl ?_
    refine St.storeA (Opd.mk rfl) (Opd.mk rfl) sz30 (by first | simp only [List.length_cons, List.length_nil] | rfl) rfl ?_
    refine St.nil ?_
    refine St.then_normal ?_
    refine St.seq ?_
    refine St.seq ?_
    refine St.rg ?_
    refine St.ev _ (Ev.move (Opd.mk rfl)) rfl ?_
    refine St.ev _ (Ev.lss (Opd.mk rfl) (Opd.mk rfl)) rfl ?_
    refine St.ev _ (Ev.move (Opd.mk rfl)) rfl ?_
    refine St.gf _ rfl rfl (fun hg => Ev.move (Opd.mk rfl)) rfl ?_
    refine St.gf _ rfl rfl (fun hg => Ev.gtr (Opd.gv rfl hg) (Opd.mk rfl)) rfl ?_
    refine St.ev _ (Ev.or (Opd.mk rfl) (fun hp => Opd.gv rfl hp)) rfl ?_
    refine St.nil ?_
    refine St.then_normal ?_
    refine St.cond _ rfl (fun h33 => ?_) (fun h33 => ?_)
    · skip
      try simp only [Bool.and_true, Bool.true_and, decide_eq_true_eq, decide_eq_false_iff_not, Bool.and_eq_true, Bool.or_eq_true, Bool.and_eq_false_iff, Bool.or_eq_false_iff, Bool.not_eq_true', Bool.not_eq_false', beq_iff_eq, beq_eq_false_iff_ne, Int.not_lt, Int.not_le] at h33
      have hgf : grF n = (3, -1) := by unfold grF; rw [if_pos (by omega)]
      obtain rfl := grok_t hG (by omega)
      rw [hgf]
      refine St.seq ?_
      refine St.rg ?_
      refine St.ev _ (Ev.ldbA (Opd.mk rfl) Tryz.underlying30 trivial (by exact sz30)) rfl ?_
      refine St.ev _ (Ev.build (ps := [(0, (Operand.const (Value.int IntKind.i64 3))), (1, (Operand.const (Value.int IntKind.i64 (-1))))]) (Opds.cons (Opd.mk rfl) (Opds.cons (Opd.mk rfl) Opds.nil)) (fun w => bld30_0_1 rfl rfl w)) rfl ?_
      refine St.ev _ (Ev.structeql (Opd.mk rfl) (Opd.mk rfl) Tryz.eqGuardType30 (fun w => eqf30 _ _ _ _ w)) rfl ?_
      refine St.ev _ (Ev.move (Opd.mk rfl)) rfl ?_
      refine St.gt _ rfl rfl (fun hg => Ev.move (Opd.mk rfl)) rfl ?_
      refine St.gt _ rfl rfl (fun hg => Ev.lensl (Opd.gv rfl hg) Tryz.underlying54) rfl ?_
      refine St.gt _ rfl rfl (fun hg => Ev.eql (Opd.gv rfl hg) (Opd.mk rfl)) rfl ?_
      refine St.ev _ (Ev.and (Opd.mk rfl) (fun hp => Opd.gv rfl hp)) rfl ?_
      refine St.ev _ (Ev.assign (Opd.mk rfl)) rfl ?_
      refine St.nil ?_
      refine St.then_normal ?_
      refine St.rett ?_
      refine St.then_ret ?_
      refine St.rets [_] [] Tryz.results8 ⟨rfl, trivial⟩ ?_ (fun _ hw => hw.sub)
      exact be (by simp)
    · skip
      try simp only [Bool.and_true, Bool.true_and, decide_eq_true_eq, decide_eq_false_iff_not, Bool.and_eq_true, Bool.or_eq_true, Bool.and_eq_false_iff, Bool.or_eq_false_iff, Bool.not_eq_true', Bool.not_eq_false', beq_iff_eq, beq_eq_false_iff_ne, Int.not_lt, Int.not_le] at h33
      have hgf : grF n = (0, 0) := by unfold grF; rw [if_neg (by omega)]
      rw [hgf]
      obtain ⟨m, rfl⟩ : ∃ m : Nat, n = m := ⟨n.toNat, by omega⟩
      have hF := grok_f hG (by omega)
      have hVl := wins_le hcorp m
      have hsm := hF.sum
      have hwn := wins_len (l := l) (n := m) (by omega)
      have hGl := cs_many G fun g hg => (hF.one g hg).2.2
      refine St.skip ?_
      refine St.then_normal ?_
      refine St.seq ?_
      refine St.seq ?_
      refine St.rg ?_
      refine St.ev _ (Ev.fldb0 (Opd.mk rfl) fo30_0) rfl ?_
      refine St.ev _ (Ev.ldb (Opd.mk rfl) Tryz.underlying3 trivial (by rfl)) rfl ?_
      refine St.ev _ (Ev.neq (Opd.mk rfl) (Opd.mk rfl)) rfl ?_
      refine St.nil ?_
      refine St.then_normal ?_
      refine St.condf _ rfl rfl ?_
      refine St.skip ?_
      refine St.then_normal ?_
      refine St.seq ?_
      refine St.rg ?_
      refine St.ev _ (Ev.assign (Opd.mk rfl)) rfl ?_
      refine St.nil ?_
      refine St.then_normal ?_
      refine St.seq ?_
      refine St.seq ?_
      refine St.rg ?_
      refine St.ev _ (Ev.assign (Opd.mk rfl)) rfl ?_
      refine St.nil ?_
      refine St.then_normal ?_
      refine St.block ?_
      refine St.loopS (ι := Nat) (fun i T => (9, iv i) :: (8, iv (cs (G.take i) : Nat)) :: T) (fun i => i ≤ G.length) (fun i => G.length - i) 0 (Keep.cons 0 rfl (Keep.cons 1 rfl (Keep.cons 7 rfl Keep.nil))) (Nat.zero_le _) (by repeat (first | exact Sub.nil | refine Sub.cons (by first | rfl | exact congrArg (fun z => some (iv z)) (by first | omega | (dsimp only; omega)) | exact congrArg (fun z => some (Value.bool z)) (by first | assumption | exact Eq.symm (by assumption))) ?_)) ?_
      intro i hphi
      have hcl := cs_le G i
      refine St.seq ?_
      refine St.seq ?_
      refine St.rg ?_
      refine St.ev _ (Ev.move (Opd.mk rfl)) rfl ?_
      refine St.ev _ (Ev.move (Opd.mk rfl)) rfl ?_
      refine St.ev _ (Ev.lensl (Opd.mk rfl) Tryz.underlying54) rfl ?_
      refine St.ev _ (Ev.lss (Opd.mk rfl) (Opd.mk rfl)) rfl ?_
      refine St.nil ?_
      refine St.then_normal ?_
      refine St.cond _ rfl (fun h48 => ?_) (fun h48 => ?_)
      · skip
        try simp only [Bool.and_true, Bool.true_and, decide_eq_true_eq, decide_eq_false_iff_not, Bool.and_eq_true, Bool.or_eq_true, Bool.and_eq_false_iff, Bool.or_eq_false_iff, Bool.not_eq_true', Bool.not_eq_false', beq_iff_eq, beq_eq_false_iff_ne, Int.not_lt, Int.not_le] at h48
        obtain ⟨g, hgx⟩ := some_of_lt (show i < G.length by omega)
        have hgm := List.mem_of_getElem? hgx
        obtain ⟨ho1, ho2, ho3⟩ := hF.one g hgm
        refine St.gget (Rr := strR) (D := G) g g hgm hgm ?_
        obtain ⟨g0, hg0, hor⟩ : ∃ g0 : Gm Str, G[i - 1]? = some g0 ∧ (0 < i → g.2.2 ≤ g0.2.2 ∧ (g.2.2 = g0.2.2 → cww g0.2.1 g.2.1 < 0)) := by
          obtain ⟨g0, hg0⟩ := some_of_lt (show i - 1 < G.length by omega)
          exact ⟨g0, hg0, fun h => hF.ord (i - 1) g0 g hg0 (by rw [show i - 1 + 1 = i by omega]; exact hgx)⟩
        have hg0m := List.mem_of_getElem? hg0
        refine St.gget (Rr := strR) (D := G) g0 g0 hg0m hg0m ?_
        have hst := cs_step hgx
        have hst2 := cs_le G (i + 1)
        refine St.skip ?_
        refine St.then_normal ?_
        refine St.seq ?_
        refine St.block ?_
        refine St.seq ?_
        refine St.seq ?_
        refine St.parL [] mixed ?_
        refine SW.defer 0 (by repeat (first | refine NP.then ?_ | refine NP.inBlock ?_ | exact NP.body)) (by kernel_rfl) rfl (fun R => Ev.move (Opd.mk rfl)) (by kernel_rfl) rfl ?_
        refine SW.defer 1 (by repeat (first | refine NP.then ?_ | refine NP.inBlock ?_ | exact NP.body)) (by kernel_rfl) rfl (fun R => Ev.move (Opd.mk rfl)) (by kernel_rfl) rfl ?_
        refine SW.defer 2 (by repeat (first | refine NP.then ?_ | refine NP.inBlock ?_ | exact NP.body)) (by kernel_rfl) rfl (fun R => Ev.idxaddr (k := i) (Opd.mk rfl) (Opd.mk rfl) Tryz.underlying54 sz58 (by omega) (by first | omega | (simp only [Bool.and_true, Bool.true_and, decide_eq_true_eq, decide_eq_false_iff_not, Bool.and_eq_true, Bool.or_eq_true, Bool.and_eq_false_iff, Bool.or_eq_false_iff, Bool.not_eq_true', Bool.not_eq_false', beq_iff_eq, beq_eq_false_iff_ne, Int.not_lt, Int.not_le] at hg; omega))) (by kernel_rfl) rfl ?_
        refine SW.defer 3 (by repeat (first | refine NP.then ?_ | refine NP.inBlock ?_ | exact NP.body)) (by kernel_rfl) rfl (fun R => Ev.fldel (Opd.mk rfl) (by first | omega | (simp only [Bool.and_true, Bool.true_and, decide_eq_true_eq, decide_eq_false_iff_not, Bool.and_eq_true, Bool.or_eq_true, Bool.and_eq_false_iff, Bool.or_eq_false_iff, Bool.not_eq_true', Bool.not_eq_false', beq_iff_eq, beq_eq_false_iff_ne, Int.not_lt, Int.not_le] at hg; omega)) fo58_0) (by kernel_rfl) rfl ?_
        refine SW.defer 4 (by repeat (first | refine NP.then ?_ | refine NP.inBlock ?_ | exact NP.body)) (by kernel_rfl) rfl (fun R => Ev.ld1 (Opd.mk rfl) hgx Tryz.underlying23 trivial rfl) (by kernel_rfl) rfl ?_
        refine SW.slot 55 g.1.1 rfl rfl ?_
        refine SW.defer 5 (by repeat (first | refine NP.then ?_ | refine NP.inBlock ?_ | exact NP.body)) (by kernel_rfl) rfl (fun R => Ev.lensl (Opd.mk rfl) Tryz.underlying23) (by kernel_rfl) rfl ?_
        refine SW.defer 6 (by repeat (first | refine NP.then ?_ | refine NP.inBlock ?_ | exact NP.body)) (by kernel_rfl) rfl (fun R => Ev.move (Opd.mk rfl)) (by kernel_rfl) rfl ?_
        refine SW.defer 7 (by repeat (first | refine NP.then ?_ | refine NP.inBlock ?_ | exact NP.body)) (by kernel_rfl) rfl (fun R => Ev.neq (Opd.mk rfl) (Opd.mk rfl)) (by kernel_rfl) rfl ?_
        refine SW.defer 8 (by repeat (first | refine NP.then ?_ | refine NP.inBlock ?_ | exact NP.body)) (by kernel_rfl) rfl (fun R => Ev.move (Opd.mk rfl)) (by kernel_rfl) rfl ?_
        refine SW.slot 59 (.bool false) rfl (congrArg Value.bool (by rw [ho1]; simp)) ?_
        refine SW.gf 9 _ (by repeat (first | refine NP.then ?_ | refine NP.inBlock ?_ | exact NP.body)) (by kernel_rfl) rfl rfl rfl (fun R _ => Ev.move (Opd.mk rfl)) (by kernel_rfl) rfl ?_
        refine SW.slot 60 _ rfl (gv_true rfl _) ?_
        refine SW.gf 10 _ (by repeat (first | refine NP.then ?_ | refine NP.inBlock ?_ | exact NP.body)) (by kernel_rfl) rfl rfl rfl (fun R _ => Ev.move (Opd.mk rfl)) (by kernel_rfl) rfl ?_
        refine SW.slot 61 _ rfl (gv_true rfl _) ?_
        refine SW.gf 11 _ (by repeat (first | refine NP.then ?_ | refine NP.inBlock ?_ | exact NP.body)) (by kernel_rfl) rfl rfl rfl (fun R _ => Ev.idxaddr (k := i) (Opd.mk rfl) (Opd.mk rfl) Tryz.underlying54 sz58 (by omega) (by first | omega | (simp only [Bool.and_true, Bool.true_and, decide_eq_true_eq, decide_eq_false_iff_not, Bool.and_eq_true, Bool.or_eq_true, Bool.and_eq_false_iff, Bool.or_eq_false_iff, Bool.not_eq_true', Bool.not_eq_false', beq_iff_eq, beq_eq_false_iff_ne, Int.not_lt, Int.not_le] at hg; omega))) (by kernel_rfl) rfl ?_
        refine SW.slot 62 _ rfl (gv_true rfl _) ?_
        refine SW.gf 12 _ (by repeat (first | refine NP.then ?_ | refine NP.inBlock ?_ | exact NP.body)) (by kernel_rfl) rfl rfl rfl (fun R _ => Ev.fldel (Opd.mk rfl) (by first | omega | (simp only [Bool.and_true, Bool.true_and, decide_eq_true_eq, decide_eq_false_iff_not, Bool.and_eq_true, Bool.or_eq_true, Bool.and_eq_false_iff, Bool.or_eq_false_iff, Bool.not_eq_true', Bool.not_eq_false', beq_iff_eq, beq_eq_false_iff_ne, Int.not_lt, Int.not_le] at hg; omega)) fo58_1) (by kernel_rfl) rfl ?_
        refine SW.slot 63 _ rfl (gv_true rfl _) ?_
        refine SW.gf 13 _ (by repeat (first | refine NP.then ?_ | refine NP.inBlock ?_ | exact NP.body)) (by kernel_rfl) rfl rfl rfl (fun R _ => Ev.ld1 (Opd.mk rfl) hgx Tryz.underlying3 trivial rfl) (by kernel_rfl) rfl ?_
        refine SW.slot 64 _ rfl (gv_true rfl _) ?_
        refine SW.slot 64 (iv (g.2.2 : Nat)) rfl rfl ?_
        refine SW.gf 14 _ (by repeat (first | refine NP.then ?_ | refine NP.inBlock ?_ | exact NP.body)) (by kernel_rfl) rfl rfl rfl (fun R _ => Ev.move (Opd.mk rfl)) (by kernel_rfl) rfl ?_
        refine SW.slot 65 _ rfl (gv_true rfl _) ?_
        refine SW.gf 15 _ (by repeat (first | refine NP.then ?_ | refine NP.inBlock ?_ | exact NP.body)) (by kernel_rfl) rfl rfl rfl (fun R _ => Ev.move (Opd.mk rfl)) (by kernel_rfl) rfl ?_
        refine SW.slot 66 _ rfl (gv_true rfl _) ?_
        refine SW.gf 16 _ (by repeat (first | refine NP.then ?_ | refine NP.inBlock ?_ | exact NP.body)) (by kernel_rfl) rfl rfl rfl (fun R _ => Ev.move (Opd.mk rfl)) (by kernel_rfl) rfl ?_
        refine SW.slot 67 _ rfl (gv_true rfl _) ?_
        refine SW.gf 17 _ (by repeat (first | refine NP.then ?_ | refine NP.inBlock ?_ | exact NP.body)) (by kernel_rfl) rfl rfl rfl (fun R _ => Ev.idxaddr (k := i) (Opd.mk rfl) (Opd.mk rfl) Tryz.underlying54 sz58 (by omega) (by first | omega | (simp only [Bool.and_true, Bool.true_and, decide_eq_true_eq, decide_eq_false_iff_not, Bool.and_eq_true, Bool.or_eq_true, Bool.and_eq_false_iff, Bool.or_eq_false_iff, Bool.not_eq_true', Bool.not_eq_false', beq_iff_eq, beq_eq_false_iff_ne, Int.not_lt, Int.not_le] at hg; omega))) (by kernel_rfl) rfl ?_
        refine SW.slot 68 _ rfl (gv_true rfl _) ?_
        refine SW.gf 18 _ (by repeat (first | refine NP.then ?_ | refine NP.inBlock ?_ | exact NP.body)) (by kernel_rfl) rfl rfl rfl (fun R _ => Ev.fldel (Opd.mk rfl) (by first | omega | (simp only [Bool.and_true, Bool.true_and, decide_eq_true_eq, decide_eq_false_iff_not, Bool.and_eq_true, Bool.or_eq_true, Bool.and_eq_false_iff, Bool.or_eq_false_iff, Bool.not_eq_true', Bool.not_eq_false', beq_iff_eq, beq_eq_false_iff_ne, Int.not_lt, Int.not_le] at hg; omega)) fo58_0) (by kernel_rfl) rfl ?_
        refine SW.slot 69 _ rfl (gv_true rfl _) ?_
        refine SW.gf 19 _ (by repeat (first | refine NP.then ?_ | refine NP.inBlock ?_ | exact NP.body)) (by kernel_rfl) rfl rfl rfl (fun R _ => Ev.ld1 (Opd.mk rfl) hgx Tryz.underlying23 trivial rfl) (by kernel_rfl) rfl ?_
        refine SW.slot 70 _ rfl (gv_true rfl _) ?_
        refine SW.slot 70 g.1.1 rfl rfl ?_
        refine SW.turn1 (i := 20) (by kernel_rfl) rfl ?_
        refine St.takeg rfl rfl ?_
        refine St.calld (PartHits_spec v0 g.1.1 l g.2.1 0 hcorp (by omega) (by omega)) cb16 (Opds.cons (Opd.mk rfl) (Opds.cons (Opd.mk rfl) (Opds.cons (Opd.mk rfl) Opds.nil))) rfl ?_
        rintro v71 _ ⟨h71, rfl⟩
        refine St.app1 ?_
        refine St.openH v71 (hitsW l g.2.1 0) (fun uwk huwk => ?_)
        have hzk := zip_len huwk
        refine St.nil ?_
        refine St.then_normal ?_
        refine SW.go ?_
        refine SW.turn1 (i := 21) (by kernel_rfl) rfl ?_
        refine St.takeg rfl rfl ?_
        refine St.ev _ (Ev.lensl (Opd.mk rfl) Tryz.underlying36) rfl ?_
        refine St.nil ?_
        refine St.then_normal ?_
        refine SW.go ?_
        refine SW.gf 22 _ (by repeat (first | refine NP.then ?_ | refine NP.inBlock ?_ | exact NP.body)) (by kernel_rfl) rfl rfl rfl (fun R _ => Ev.neq (Opd.mk rfl) (Opd.mk rfl)) (by kernel_rfl) rfl ?_
        refine SW.slot 73 _ rfl (gv_true rfl _) ?_
        refine SW.defer 23 (by repeat (first | refine NP.then ?_ | refine NP.inBlock ?_ | exact NP.body)) (by kernel_rfl) rfl (fun R => Ev.pickf (Opd.mk rfl) rfl (Opd.mk rfl)) (by kernel_rfl) rfl ?_
        refine SW.defer 24 (by repeat (first | refine NP.then ?_ | refine NP.inBlock ?_ | exact NP.body)) (by kernel_rfl) rfl (fun R => Ev.move (Opd.mk rfl)) (by kernel_rfl) rfl ?_
        refine SW.slot 75 (.bool false) rfl (congrArg Value.bool (by rw [hzk, hw_len, ← ho2]; simp)) ?_
        refine SW.gf 25 _ (by repeat (first | refine NP.then ?_ | refine NP.inBlock ?_ | exact NP.body)) (by kernel_rfl) rfl rfl rfl (fun R _ => Ev.move (Opd.mk rfl)) (by kernel_rfl) rfl ?_
        refine SW.slot 76 _ rfl (gv_true rfl _) ?_
        refine SW.gf 26 _ (by repeat (first | refine NP.then ?_ | refine NP.inBlock ?_ | exact NP.body)) (by kernel_rfl) rfl rfl rfl (fun R _ => Ev.move (Opd.mk rfl)) (by kernel_rfl) rfl ?_
        refine SW.slot 77 _ rfl (gv_true rfl _) ?_
        refine SW.gf 27 _ (by repeat (first | refine NP.then ?_ | refine NP.inBlock ?_ | exact NP.body)) (by kernel_rfl) rfl rfl rfl (fun R _ => Ev.idxaddr (k := i) (Opd.mk rfl) (Opd.mk rfl) Tryz.underlying54 sz58 (by omega) (by first | omega | (simp only [Bool.and_true, Bool.true_and, decide_eq_true_eq, decide_eq_false_iff_not, Bool.and_eq_true, Bool.or_eq_true, Bool.and_eq_false_iff, Bool.or_eq_false_iff, Bool.not_eq_true', Bool.not_eq_false', beq_iff_eq, beq_eq_false_iff_ne, Int.not_lt, Int.not_le] at hg; omega))) (by kernel_rfl) rfl ?_
        refine SW.slot 78 _ rfl (gv_true rfl _) ?_
        refine SW.gf 28 _ (by repeat (first | refine NP.then ?_ | refine NP.inBlock ?_ | exact NP.body)) (by kernel_rfl) rfl rfl rfl (fun R _ => Ev.fldel (Opd.mk rfl) (by first | omega | (simp only [Bool.and_true, Bool.true_and, decide_eq_true_eq, decide_eq_false_iff_not, Bool.and_eq_true, Bool.or_eq_true, Bool.and_eq_false_iff, Bool.or_eq_false_iff, Bool.not_eq_true', Bool.not_eq_false', beq_iff_eq, beq_eq_false_iff_ne, Int.not_lt, Int.not_le] at hg; omega)) fo58_1) (by kernel_rfl) rfl ?_
        refine SW.slot 79 _ rfl (gv_true rfl _) ?_
        refine SW.gf 29 _ (by repeat (first | refine NP.then ?_ | refine NP.inBlock ?_ | exact NP.body)) (by kernel_rfl) rfl rfl rfl (fun R _ => Ev.ld1 (Opd.mk rfl) hgx Tryz.underlying3 trivial rfl) (by kernel_rfl) rfl ?_
        refine SW.slot 80 _ rfl (gv_true rfl _) ?_
        refine SW.slot 80 (iv (g.2.2 : Nat)) rfl rfl ?_
        refine SW.gf 30 _ (by repeat (first | refine NP.then ?_ | refine NP.inBlock ?_ | exact NP.body)) (by kernel_rfl) rfl rfl rfl (fun R _ => Ev.eql (Opd.mk rfl) (Opd.mk rfl)) (by kernel_rfl) rfl ?_
        refine SW.slot 81 _ rfl (gv_true rfl _) ?_
        refine SW.defer 31 (by repeat (first | refine NP.then ?_ | refine NP.inBlock ?_ | exact NP.body)) (by kernel_rfl) rfl (fun R => Ev.pickf (Opd.mk rfl) rfl (Opd.mk rfl)) (by kernel_rfl) rfl ?_
        refine SW.done (by kernel_rfl) ?_
        refine St.then_normal ?_
        refine St.condf _ rfl (decide_eq_false (by omega)) ?_
        refine St.skip ?_
        refine St.then_normal ?_
        refine St.seq ?_
        refine St.seq ?_
        refine St.parL [] mixed ?_
        refine SW.defer 0 (by repeat (first | refine NP.then ?_ | refine NP.inBlock ?_ | exact NP.body)) (by kernel_rfl) rfl (fun R => Ev.move (Opd.mk rfl)) (by kernel_rfl) rfl ?_
        refine SW.defer 1 (by repeat (first | refine NP.then ?_ | refine NP.inBlock ?_ | exact NP.body)) (by kernel_rfl) rfl (fun R => Ev.gtr (Opd.mk rfl) (Opd.mk rfl)) (by kernel_rfl) rfl ?_
        refine SW.defer 2 (by repeat (first | refine NP.then ?_ | refine NP.inBlock ?_ | exact NP.body)) (by kernel_rfl) rfl (fun R => Ev.move (Opd.mk rfl)) (by kernel_rfl) rfl ?_
        refine SW.gt 3 _ (by repeat (first | refine NP.then ?_ | refine NP.inBlock ?_ | exact NP.body)) (by kernel_rfl) rfl rfl rfl (fun R hg => Ev.move (Opd.mk rfl)) (by kernel_rfl) rfl ?_
        refine SW.gt 4 _ (by repeat (first | refine NP.then ?_ | refine NP.inBlock ?_ | exact NP.body)) (by kernel_rfl) rfl rfl rfl (fun R hg => Ev.move (Opd.mk rfl)) (by kernel_rfl) rfl ?_
        refine SW.gt 5 _ (by repeat (first | refine NP.then ?_ | refine NP.inBlock ?_ | exact NP.body)) (by kernel_rfl) rfl rfl rfl (fun R hg => Ev.idxaddr (k := i) (Opd.gv rfl hg) (Opd.gv rfl hg) Tryz.underlying54 sz58 (by first | omega | (simp only [Bool.and_true, Bool.true_and, decide_eq_true_eq, decide_eq_false_iff_not, Bool.and_eq_true, Bool.or_eq_true, Bool.and_eq_false_iff, Bool.or_eq_false_iff, Bool.not_eq_true', Bool.not_eq_false', beq_iff_eq, beq_eq_false_iff_ne, Int.not_lt, Int.not_le] at hg; omega)) (by first | omega | (simp only [Bool.and_true, Bool.true_and, decide_eq_true_eq, decide_eq_false_iff_not, Bool.and_eq_true, Bool.or_eq_true, Bool.and_eq_false_iff, Bool.or_eq_false_iff, Bool.not_eq_true', Bool.not_eq_false', beq_iff_eq, beq_eq_false_iff_ne, Int.not_lt, Int.not_le] at hg; omega))) (by kernel_rfl) rfl ?_
        refine SW.gt 6 _ (by repeat (first | refine NP.then ?_ | refine NP.inBlock ?_ | exact NP.body)) (by kernel_rfl) rfl rfl rfl (fun R hg => Ev.fldel (Opd.gv rfl hg) (by first | omega | (simp only [Bool.and_true, Bool.true_and, decide_eq_true_eq, decide_eq_false_iff_not, Bool.and_eq_true, Bool.or_eq_true, Bool.and_eq_false_iff, Bool.or_eq_false_iff, Bool.not_eq_true', Bool.not_eq_false', beq_iff_eq, beq_eq_false_iff_ne, Int.not_lt, Int.not_le] at hg; omega)) fo58_1) (by kernel_rfl) rfl ?_
        refine SW.gt 7 _ (by repeat (first | refine NP.then ?_ | refine NP.inBlock ?_ | exact NP.body)) (by kernel_rfl) rfl rfl rfl (fun R hg => Ev.ld1 (Opd.gv rfl hg) hgx Tryz.underlying3 trivial rfl) (by kernel_rfl) rfl ?_
        refine SW.gt 8 _ (by repeat (first | refine NP.then ?_ | refine NP.inBlock ?_ | exact NP.body)) (by kernel_rfl) rfl rfl rfl (fun R hg => Ev.move (Opd.mk rfl)) (by kernel_rfl) rfl ?_
        refine SW.gt 9 _ (by repeat (first | refine NP.then ?_ | refine NP.inBlock ?_ | exact NP.body)) (by kernel_rfl) rfl rfl rfl (fun R hg => Ev.move (Opd.mk rfl)) (by kernel_rfl) rfl ?_
        refine SW.gt 10 _ (by repeat (first | refine NP.then ?_ | refine NP.inBlock ?_ | exact NP.body)) (by kernel_rfl) rfl rfl rfl (fun R hg => Ev.sub (Opd.gv rfl hg) (Opd.mk rfl) (by first | omega | (simp only [Bool.and_true, Bool.true_and, decide_eq_true_eq, decide_eq_false_iff_not, Bool.and_eq_true, Bool.or_eq_true, Bool.and_eq_false_iff, Bool.or_eq_false_iff, Bool.not_eq_true', Bool.not_eq_false', beq_iff_eq, beq_eq_false_iff_ne, Int.not_lt, Int.not_le] at hg; omega))) (by kernel_rfl) rfl ?_
        refine SW.gt 11 _ (by repeat (first | refine NP.then ?_ | refine NP.inBlock ?_ | exact NP.body)) (by kernel_rfl) rfl rfl rfl (fun R hg => Ev.idxaddr (k := (i - 1)) (Opd.gv rfl hg) (Opd.gv rfl hg) Tryz.underlying54 sz58 (by first | omega | (simp only [Bool.and_true, Bool.true_and, decide_eq_true_eq, decide_eq_false_iff_not, Bool.and_eq_true, Bool.or_eq_true, Bool.and_eq_false_iff, Bool.or_eq_false_iff, Bool.not_eq_true', Bool.not_eq_false', beq_iff_eq, beq_eq_false_iff_ne, Int.not_lt, Int.not_le] at hg; omega)) (by first | omega | (simp only [Bool.and_true, Bool.true_and, decide_eq_true_eq, decide_eq_false_iff_not, Bool.and_eq_true, Bool.or_eq_true, Bool.and_eq_false_iff, Bool.or_eq_false_iff, Bool.not_eq_true', Bool.not_eq_false', beq_iff_eq, beq_eq_false_iff_ne, Int.not_lt, Int.not_le] at hg; omega))) (by kernel_rfl) rfl ?_
        refine SW.gt 12 _ (by repeat (first | refine NP.then ?_ | refine NP.inBlock ?_ | exact NP.body)) (by kernel_rfl) rfl rfl rfl (fun R hg => Ev.fldel (Opd.gv rfl hg) (by first | omega | (simp only [Bool.and_true, Bool.true_and, decide_eq_true_eq, decide_eq_false_iff_not, Bool.and_eq_true, Bool.or_eq_true, Bool.and_eq_false_iff, Bool.or_eq_false_iff, Bool.not_eq_true', Bool.not_eq_false', beq_iff_eq, beq_eq_false_iff_ne, Int.not_lt, Int.not_le] at hg; omega)) fo58_1) (by kernel_rfl) rfl ?_
        refine SW.gt 13 _ (by repeat (first | refine NP.then ?_ | refine NP.inBlock ?_ | exact NP.body)) (by kernel_rfl) rfl rfl rfl (fun R hg => Ev.ld1 (Opd.gv rfl hg) hg0 Tryz.underlying3 trivial rfl) (by kernel_rfl) rfl ?_
        refine SW.gt 14 _ (by repeat (first | refine NP.then ?_ | refine NP.inBlock ?_ | exact NP.body)) (by kernel_rfl) rfl rfl rfl (fun R hg => Ev.gtr (Opd.gv rfl hg) (Opd.gv rfl hg)) (by kernel_rfl) rfl ?_
        refine SW.defer 15 (by repeat (first | refine NP.then ?_ | refine NP.inBlock ?_ | exact NP.body)) (by kernel_rfl) rfl (fun R => Ev.and (Opd.mk rfl) (fun hp => Opd.gv rfl hp)) (by kernel_rfl) rfl ?_
        refine SW.done (by kernel_rfl) ?_
        refine St.then_normal ?_
        refine St.condf _ rfl (gr_case0 hor) ?_
        refine St.skip ?_
        refine St.then_normal ?_
        refine St.seq ?_
        refine St.seq ?_
        refine St.parL [] mixed ?_
        refine SW.defer 0 (by repeat (first | refine NP.then ?_ | refine NP.inBlock ?_ | exact NP.body)) (by kernel_rfl) rfl (fun R => Ev.move (Opd.mk rfl)) (by kernel_rfl) rfl ?_
        refine SW.defer 1 (by repeat (first | refine NP.then ?_ | refine NP.inBlock ?_ | exact NP.body)) (by kernel_rfl) rfl (fun R => Ev.gtr (Opd.mk rfl) (Opd.mk rfl)) (by kernel_rfl) rfl ?_
        refine SW.defer 2 (by repeat (first | refine NP.then ?_ | refine NP.inBlock ?_ | exact NP.body)) (by kernel_rfl) rfl (fun R => Ev.move (Opd.mk rfl)) (by kernel_rfl) rfl ?_
        refine SW.gt 3 _ (by repeat (first | refine NP.then ?_ | refine NP.inBlock ?_ | exact NP.body)) (by kernel_rfl) rfl rfl rfl (fun R hg => Ev.move (Opd.mk rfl)) (by kernel_rfl) rfl ?_
        refine SW.gt 4 _ (by repeat (first | refine NP.then ?_ | refine NP.inBlock ?_ | exact NP.body)) (by kernel_rfl) rfl rfl rfl (fun R hg => Ev.move (Opd.mk rfl)) (by kernel_rfl) rfl ?_
        refine SW.gt 5 _ (by repeat (first | refine NP.then ?_ | refine NP.inBlock ?_ | exact NP.body)) (by kernel_rfl) rfl rfl rfl (fun R hg => Ev.idxaddr (k := i) (Opd.gv rfl hg) (Opd.gv rfl hg) Tryz.underlying54 sz58 (by first | omega | (simp only [Bool.and_true, Bool.true_and, decide_eq_true_eq, decide_eq_false_iff_not, Bool.and_eq_true, Bool.or_eq_true, Bool.and_eq_false_iff, Bool.or_eq_false_iff, Bool.not_eq_true', Bool.not_eq_false', beq_iff_eq, beq_eq_false_iff_ne, Int.not_lt, Int.not_le] at hg; omega)) (by first | omega | (simp only [Bool.and_true, Bool.true_and, decide_eq_true_eq, decide_eq_false_iff_not, Bool.and_eq_true, Bool.or_eq_true, Bool.and_eq_false_iff, Bool.or_eq_false_iff, Bool.not_eq_true', Bool.not_eq_false', beq_iff_eq, beq_eq_false_iff_ne, Int.not_lt, Int.not_le] at hg; omega))) (by kernel_rfl) rfl ?_
        refine SW.gt 6 _ (by repeat (first | refine NP.then ?_ | refine NP.inBlock ?_ | exact NP.body)) (by kernel_rfl) rfl rfl rfl (fun R hg => Ev.fldel (Opd.gv rfl hg) (by first | omega | (simp only [Bool.and_true, Bool.true_and, decide_eq_true_eq, decide_eq_false_iff_not, Bool.and_eq_true, Bool.or_eq_true, Bool.and_eq_false_iff, Bool.or_eq_false_iff, Bool.not_eq_true', Bool.not_eq_false', beq_iff_eq, beq_eq_false_iff_ne, Int.not_lt, Int.not_le] at hg; omega)) fo58_1) (by kernel_rfl) rfl ?_
        refine SW.gt 7 _ (by repeat (first | refine NP.then ?_ | refine NP.inBlock ?_ | exact NP.body)) (by kernel_rfl) rfl rfl rfl (fun R hg => Ev.ld1 (Opd.gv rfl hg) hgx Tryz.underlying3 trivial rfl) (by kernel_rfl) rfl ?_
        refine SW.gt 8 _ (by repeat (first | refine NP.then ?_ | refine NP.inBlock ?_ | exact NP.body)) (by kernel_rfl) rfl rfl rfl (fun R hg => Ev.move (Opd.mk rfl)) (by kernel_rfl) rfl ?_
        refine SW.gt 9 _ (by repeat (first | refine NP.then ?_ | refine NP.inBlock ?_ | exact NP.body)) (by kernel_rfl) rfl rfl rfl (fun R hg => Ev.move (Opd.mk rfl)) (by kernel_rfl) rfl ?_
        refine SW.gt 10 _ (by repeat (first | refine NP.then ?_ | refine NP.inBlock ?_ | exact NP.body)) (by kernel_rfl) rfl rfl rfl (fun R hg => Ev.sub (Opd.gv rfl hg) (Opd.mk rfl) (by first | omega | (simp only [Bool.and_true, Bool.true_and, decide_eq_true_eq, decide_eq_false_iff_not, Bool.and_eq_true, Bool.or_eq_true, Bool.and_eq_false_iff, Bool.or_eq_false_iff, Bool.not_eq_true', Bool.not_eq_false', beq_iff_eq, beq_eq_false_iff_ne, Int.not_lt, Int.not_le] at hg; omega))) (by kernel_rfl) rfl ?_
        refine SW.gt 11 _ (by repeat (first | refine NP.then ?_ | refine NP.inBlock ?_ | exact NP.body)) (by kernel_rfl) rfl rfl rfl (fun R hg => Ev.idxaddr (k := (i - 1)) (Opd.gv rfl hg) (Opd.gv rfl hg) Tryz.underlying54 sz58 (by first | omega | (simp only [Bool.and_true, Bool.true_and, decide_eq_true_eq, decide_eq_false_iff_not, Bool.and_eq_true, Bool.or_eq_true, Bool.and_eq_false_iff, Bool.or_eq_false_iff, Bool.not_eq_true', Bool.not_eq_false', beq_iff_eq, beq_eq_false_iff_ne, Int.not_lt, Int.not_le] at hg; omega)) (by first | omega | (simp only [Bool.and_true, Bool.true_and, decide_eq_true_eq, decide_eq_false_iff_not, Bool.and_eq_true, Bool.or_eq_true, Bool.and_eq_false_iff, Bool.or_eq_false_iff, Bool.not_eq_true', Bool.not_eq_false', beq_iff_eq, beq_eq_false_iff_ne, Int.not_lt, Int.not_le] at hg; omega))) (by kernel_rfl) rfl ?_
        refine SW.gt 12 _ (by repeat (first | refine NP.then ?_ | refine NP.inBlock ?_ | exact NP.body)) (by kernel_rfl) rfl rfl rfl (fun R hg => Ev.fldel (Opd.gv rfl hg) (by first | omega | (simp only [Bool.and_true, Bool.true_and, decide_eq_true_eq, decide_eq_false_iff_not, Bool.and_eq_true, Bool.or_eq_true, Bool.and_eq_false_iff, Bool.or_eq_false_iff, Bool.not_eq_true', Bool.not_eq_false', beq_iff_eq, beq_eq_false_iff_ne, Int.not_lt, Int.not_le] at hg; omega)) fo58_1) (by kernel_rfl) rfl ?_
        refine SW.gt 13 _ (by repeat (first | refine NP.then ?_ | refine NP.inBlock ?_ | exact NP.body)) (by kernel_rfl) rfl rfl rfl (fun R hg => Ev.ld1 (Opd.gv rfl hg) hg0 Tryz.underlying3 trivial rfl) (by kernel_rfl) rfl ?_
        refine SW.gt 14 _ (by repeat (first | refine NP.then ?_ | refine NP.inBlock ?_ | exact NP.body)) (by kernel_rfl) rfl rfl rfl (fun R hg => Ev.eql (Opd.gv rfl hg) (Opd.gv rfl hg)) (by kernel_rfl) rfl ?_
        refine SW.defer 15 (by repeat (first | refine NP.then ?_ | refine NP.inBlock ?_ | exact NP.body)) (by kernel_rfl) rfl (fun R => Ev.and (Opd.mk rfl) (fun hp => Opd.gv rfl hp)) (by kernel_rfl) rfl ?_
        refine SW.defer 16 (by repeat (first | refine NP.then ?_ | refine NP.inBlock ?_ | exact NP.body)) (by kernel_rfl) rfl (fun R => Ev.move (Opd.mk rfl)) (by kernel_rfl) rfl ?_
        refine SW.gt 17 _ (by repeat (first | refine NP.then ?_ | refine NP.inBlock ?_ | exact NP.body)) (by kernel_rfl) rfl rfl rfl (fun R hg => Ev.move (Opd.mk rfl)) (by kernel_rfl) rfl ?_
        refine SW.gt 18 _ (by repeat (first | refine NP.then ?_ | refine NP.inBlock ?_ | exact NP.body)) (by kernel_rfl) rfl rfl rfl (fun R hg => Ev.move (Opd.mk rfl)) (by kernel_rfl) rfl ?_
        refine SW.gt 19 _ (by repeat (first | refine NP.then ?_ | refine NP.inBlock ?_ | exact NP.body)) (by kernel_rfl) rfl rfl rfl (fun R hg => Ev.sub (Opd.gv rfl hg) (Opd.mk rfl) (by first | omega | (simp only [Bool.and_true, Bool.true_and, decide_eq_true_eq, decide_eq_false_iff_not, Bool.and_eq_true, Bool.or_eq_true, Bool.and_eq_false_iff, Bool.or_eq_false_iff, Bool.not_eq_true', Bool.not_eq_false', beq_iff_eq, beq_eq_false_iff_ne, Int.not_lt, Int.not_le] at hg; omega))) (by kernel_rfl) rfl ?_
        refine SW.gt 20 _ (by repeat (first | refine NP.then ?_ | refine NP.inBlock ?_ | exact NP.body)) (by kernel_rfl) rfl rfl rfl (fun R hg => Ev.idxaddr (k := (i - 1)) (Opd.gv rfl hg) (Opd.gv rfl hg) Tryz.underlying54 sz58 (by first | omega | (simp only [Bool.and_true, Bool.true_and, decide_eq_true_eq, decide_eq_false_iff_not, Bool.and_eq_true, Bool.or_eq_true, Bool.and_eq_false_iff, Bool.or_eq_false_iff, Bool.not_eq_true', Bool.not_eq_false', beq_iff_eq, beq_eq_false_iff_ne, Int.not_lt, Int.not_le] at hg; omega)) (by first | omega | (simp only [Bool.and_true, Bool.true_and, decide_eq_true_eq, decide_eq_false_iff_not, Bool.and_eq_true, Bool.or_eq_true, Bool.and_eq_false_iff, Bool.or_eq_false_iff, Bool.not_eq_true', Bool.not_eq_false', beq_iff_eq, beq_eq_false_iff_ne, Int.not_lt, Int.not_le] at hg; omega))) (by kernel_rfl) rfl ?_
        refine SW.gt 21 _ (by repeat (first | refine NP.then ?_ | refine NP.inBlock ?_ | exact NP.body)) (by kernel_rfl) rfl rfl rfl (fun R hg => Ev.fldel (Opd.gv rfl hg) (by first | omega | (simp only [Bool.and_true, Bool.true_and, decide_eq_true_eq, decide_eq_false_iff_not, Bool.and_eq_true, Bool.or_eq_true, Bool.and_eq_false_iff, Bool.or_eq_false_iff, Bool.not_eq_true', Bool.not_eq_false', beq_iff_eq, beq_eq_false_iff_ne, Int.not_lt, Int.not_le] at hg; omega)) fo58_0) (by kernel_rfl) rfl ?_
        refine SW.gt 22 _ (by repeat (first | refine NP.then ?_ | refine NP.inBlock ?_ | exact NP.body)) (by kernel_rfl) rfl rfl rfl (fun R hg => Ev.ld1 (Opd.gv rfl hg) hg0 Tryz.underlying23 trivial rfl) (by kernel_rfl) rfl ?_
        refine SW.gt 23 _ (by repeat (first | refine NP.then ?_ | refine NP.inBlock ?_ | exact NP.body)) (by kernel_rfl) rfl rfl rfl (fun R hg => Ev.move (Opd.mk rfl)) (by kernel_rfl) rfl ?_
        refine SW.gt 24 _ (by repeat (first | refine NP.then ?_ | refine NP.inBlock ?_ | exact NP.body)) (by kernel_rfl) rfl rfl rfl (fun R hg => Ev.move (Opd.mk rfl)) (by kernel_rfl) rfl ?_
        refine SW.gt 25 _ (by repeat (first | refine NP.then ?_ | refine NP.inBlock ?_ | exact NP.body)) (by kernel_rfl) rfl rfl rfl (fun R hg => Ev.idxaddr (k := i) (Opd.gv rfl hg) (Opd.gv rfl hg) Tryz.underlying54 sz58 (by first | omega | (simp only [Bool.and_true, Bool.true_and, decide_eq_true_eq, decide_eq_false_iff_not, Bool.and_eq_true, Bool.or_eq_true, Bool.and_eq_false_iff, Bool.or_eq_false_iff, Bool.not_eq_true', Bool.not_eq_false', beq_iff_eq, beq_eq_false_iff_ne, Int.not_lt, Int.not_le] at hg; omega)) (by first | omega | (simp only [Bool.and_true, Bool.true_and, decide_eq_true_eq, decide_eq_false_iff_not, Bool.and_eq_true, Bool.or_eq_true, Bool.and_eq_false_iff, Bool.or_eq_false_iff, Bool.not_eq_true', Bool.not_eq_false', beq_iff_eq, beq_eq_false_iff_ne, Int.not_lt, Int.not_le] at hg; omega))) (by kernel_rfl) rfl ?_
        refine SW.gt 26 _ (by repeat (first | refine NP.then ?_ | refine NP.inBlock ?_ | exact NP.body)) (by kernel_rfl) rfl rfl rfl (fun R hg => Ev.fldel (Opd.gv rfl hg) (by first | omega | (simp only [Bool.and_true, Bool.true_and, decide_eq_true_eq, decide_eq_false_iff_not, Bool.and_eq_true, Bool.or_eq_true, Bool.and_eq_false_iff, Bool.or_eq_false_iff, Bool.not_eq_true', Bool.not_eq_false', beq_iff_eq, beq_eq_false_iff_ne, Int.not_lt, Int.not_le] at hg; omega)) fo58_0) (by kernel_rfl) rfl ?_
        refine SW.gt 27 _ (by repeat (first | refine NP.then ?_ | refine NP.inBlock ?_ | exact NP.body)) (by kernel_rfl) rfl rfl rfl (fun R hg => Ev.ld1 (Opd.gv rfl hg) hgx Tryz.underlying23 trivial rfl) (by kernel_rfl) rfl ?_
        refine SW.gt 28 _ (by repeat (first | refine NP.then ?_ | refine NP.inBlock ?_ | exact NP.body)) (by kernel_rfl) rfl rfl rfl (fun R hg => Ev.call (compareWords_spec g0.1.1 g.1.1 g0.2.1 g.2.1) cb24 (Opds.cons (Opd.gv rfl hg) (Opds.cons (Opd.gv rfl hg) Opds.nil))) (by kernel_rfl) rfl ?_
        refine SW.gt 29 _ (by repeat (first | refine NP.then ?_ | refine NP.inBlock ?_ | exact NP.body)) (by kernel_rfl) rfl rfl rfl (fun R hg => Ev.geq (Opd.gv rfl hg) (Opd.mk rfl)) (by kernel_rfl) rfl ?_
        refine SW.defer 30 (by repeat (first | refine NP.then ?_ | refine NP.inBlock ?_ | exact NP.body)) (by kernel_rfl) rfl (fun R => Ev.and (Opd.mk rfl) (fun hp => Opd.gv rfl hp)) (by kernel_rfl) rfl ?_
        refine SW.done (by kernel_rfl) ?_
        refine St.then_normal ?_
        refine St.condf _ rfl (gr_case hor) ?_
        refine St.skip ?_
        refine St.then_normal ?_
        refine St.rg ?_
        refine St.ev _ (Ev.move (Opd.mk rfl)) rfl ?_
        refine St.ev _ (Ev.move (Opd.mk rfl)) rfl ?_
        refine St.ev _ (Ev.move (Opd.mk rfl)) rfl ?_
        refine St.ev _ (Ev.idxaddr (k := i) (Opd.mk rfl) (Opd.mk rfl) Tryz.underlying54 sz58 (by omega) (by first | omega | (simp only [Bool.and_true, Bool.true_and, decide_eq_true_eq, decide_eq_false_iff_not, Bool.and_eq_true, Bool.or_eq_true, Bool.and_eq_false_iff, Bool.or_eq_false_iff, Bool.not_eq_true', Bool.not_eq_false', beq_iff_eq, beq_eq_false_iff_ne, Int.not_lt, Int.not_le] at hg; omega))) rfl ?_
        refine St.ev _ (Ev.fldel (Opd.mk rfl) (by first | omega | (simp only [Bool.and_true, Bool.true_and, decide_eq_true_eq, decide_eq_false_iff_not, Bool.and_eq_true, Bool.or_eq_true, Bool.and_eq_false_iff, Bool.or_eq_false_iff, Bool.not_eq_true', Bool.not_eq_false', beq_iff_eq, beq_eq_false_iff_ne, Int.not_lt, Int.not_le] at hg; omega)) fo58_1) rfl ?_
        refine St.ev _ (Ev.ld1 (Opd.mk rfl) hgx Tryz.underlying3 trivial rfl) rfl ?_
        refine St.slot 135 (iv (g.2.2 : Nat)) rfl rfl ?_
        refine St.ev _ (Ev.add (Opd.mk rfl) (Opd.mk rfl) (by omega)) rfl ?_
        refine St.ev _ (Ev.assign (Opd.mk rfl)) rfl ?_
        refine St.nil ?_
        refine St.in_normal ?_
        refine St.then_normal ?_
        refine St.rg ?_
        refine St.ev _ (Ev.move (Opd.mk rfl)) rfl ?_
        refine St.ev _ (Ev.add (Opd.mk rfl) (Opd.mk rfl) (by omega)) rfl ?_
        refine St.ev _ (Ev.assign (Opd.mk rfl)) rfl ?_
        refine St.nil ?_
        refine St.then_normal ?_
        have hst := cs_step hgx
        have hst2 := cs_le G (i + 1)
        refine St.againS (i + 1) (by omega) (by first | omega | (dsimp only; omega)) (by repeat (first | exact Sub.nil | refine Sub.cons (by first | rfl | exact congrArg (fun z => some (iv z)) (by first | omega | (dsimp only; omega)) | exact congrArg (fun z => some (Value.bool z)) (by first | assumption | exact Eq.symm (by assumption))) ?_)) (fun _ hw => hw.sub)
      · skip
        try simp only [Bool.and_true, Bool.true_and, decide_eq_true_eq, decide_eq_false_iff_not, Bool.and_eq_true, Bool.or_eq_true, Bool.and_eq_false_iff, Bool.or_eq_false_iff, Bool.not_eq_true', Bool.not_eq_false', beq_iff_eq, beq_eq_false_iff_ne, Int.not_lt, Int.not_le] at h48
        obtain rfl : i = G.length := by omega
        rw [List.take_length]
        refine St.exit ?_
        refine St.then_exit ?_
        refine St.then_exit ?_
        refine St.in_hit ?_
        refine St.then_normal ?_
        refine St.seq ?_
        refine St.rg ?_
        refine St.ev _ (Ev.assign (Opd.mk rfl)) rfl ?_
        refine St.nil ?_
        refine St.then_normal ?_
        refine St.seq ?_
        refine St.seq ?_
        refine St.rg ?_
        refine St.ev _ (Ev.assign (Opd.mk rfl)) rfl ?_
        refine St.nil ?_
        refine St.then_normal ?_
        refine St.block ?_
        refine St.loopS (ι := Nat) (fun i T => (11, iv i) :: (10, iv (((l.take i).map (wn m)).sum : Nat)) :: T) (fun i => i ≤ l.length) (fun i => l.length - i) 0 (Keep.cons 0 rfl (Keep.cons 1 rfl (Keep.cons 8 rfl Keep.nil))) (Nat.zero_le _) (by repeat (first | exact Sub.nil | refine Sub.cons (by first | rfl | exact congrArg (fun z => some (iv z)) (by first | omega | (dsimp only; omega)) | exact congrArg (fun z => some (Value.bool z)) (by first | assumption | exact Eq.symm (by assumption))) ?_)) ?_
        intro i hphi
        have hwl := wn_le l m i
        refine St.seq ?_
        refine St.seq ?_
        refine St.rg ?_
        refine St.ev _ (Ev.move (Opd.mk rfl)) rfl ?_
        refine St.ev _ (Ev.move (Opd.mk rfl)) rfl ?_
        refine St.ev _ (Ev.lensl (Opd.mk rfl) Tryz.underlying22) rfl ?_
        refine St.ev _ (Ev.lss (Opd.mk rfl) (Opd.mk rfl)) rfl ?_
        refine St.nil ?_
        refine St.then_normal ?_
        refine St.cond _ rfl (fun h140 => ?_) (fun h140 => ?_)
        · skip
          try simp only [Bool.and_true, Bool.true_and, decide_eq_true_eq, decide_eq_false_iff_not, Bool.and_eq_true, Bool.or_eq_true, Bool.and_eq_false_iff, Bool.or_eq_false_iff, Bool.not_eq_true', Bool.not_eq_false', beq_iff_eq, beq_eq_false_iff_ne, Int.not_lt, Int.not_le] at h140
          obtain ⟨s, hs⟩ := some_of_lt (show i < l.length by omega)
          obtain ⟨u, hu⟩ := some_of_lt (show i < vs.length by omega)
          refine St.ptw (vs := vs) i hu hs ?_
          have hs12 := mem_get hcorp hs
          have hws := wn_step (n := m) hs
          have hwd : wn m s = if m ≤ s.length then s.length - m + 1 else 0 := rfl
          refine St.skip ?_
          refine St.then_normal ?_
          refine St.seq ?_
          refine St.block ?_
          refine St.seq ?_
          refine St.rg ?_
          refine St.ev _ (Ev.move (Opd.mk rfl)) rfl ?_
          refine St.ev _ (Ev.move (Opd.mk rfl)) rfl ?_
          refine St.ev _ (Ev.idxaddr (k := i) (Opd.mk rfl) (Opd.mk rfl) Tryz.underlying22 sz23 (by omega) (by omega)) rfl ?_
          refine St.ev _ (Ev.ld1 (Opd.mk rfl) hu Tryz.underlying23 trivial rfl) rfl ?_
          refine St.ev _ (Ev.lensl (Opd.mk rfl) Tryz.underlying23) rfl ?_
          refine St.ev _ (Ev.move (Opd.mk rfl)) rfl ?_
          refine St.ev _ (Ev.geq (Opd.mk rfl) (Opd.mk rfl)) rfl ?_
          refine St.nil ?_
          refine St.then_normal ?_
          refine St.cond _ rfl (fun h149 => ?_) (fun h149 => ?_)
          · skip
            try simp only [Bool.and_true, Bool.true_and, decide_eq_true_eq, decide_eq_false_iff_not, Bool.and_eq_true, Bool.or_eq_true, Bool.and_eq_false_iff, Bool.or_eq_false_iff, Bool.not_eq_true', Bool.not_eq_false', beq_iff_eq, beq_eq_false_iff_ne, Int.not_lt, Int.not_le] at h149
            rw [if_pos (by omega)] at hwd
            refine St.rg ?_
            refine St.ev _ (Ev.move (Opd.mk rfl)) rfl ?_
            refine St.ev _ (Ev.move (Opd.mk rfl)) rfl ?_
            refine St.ev _ (Ev.move (Opd.mk rfl)) rfl ?_
            refine St.ev _ (Ev.idxaddr (k := i) (Opd.mk rfl) (Opd.mk rfl) Tryz.underlying22 sz23 (by omega) (by omega)) rfl ?_
            refine St.ev _ (Ev.ld1 (Opd.mk rfl) hu Tryz.underlying23 trivial rfl) rfl ?_
            refine St.ev _ (Ev.lensl (Opd.mk rfl) Tryz.underlying23) rfl ?_
            refine St.ev _ (Ev.move (Opd.mk rfl)) rfl ?_
            refine St.ev _ (Ev.sub (Opd.mk rfl) (Opd.mk rfl) (by omega)) rfl ?_
            refine St.ev _ (Ev.add (Opd.mk rfl) (Opd.mk rfl) (by omega)) rfl ?_
            refine St.ev _ (Ev.add (Opd.mk rfl) (Opd.mk rfl) (by omega)) rfl ?_
            refine St.ev _ (Ev.assign (Opd.mk rfl)) rfl ?_
            refine St.nil ?_
            refine St.in_normal ?_
            refine St.then_normal ?_
            refine St.rg ?_
            refine St.ev _ (Ev.move (Opd.mk rfl)) rfl ?_
            refine St.ev _ (Ev.add (Opd.mk rfl) (Opd.mk rfl) (by omega)) rfl ?_
            refine St.ev _ (Ev.assign (Opd.mk rfl)) rfl ?_
            refine St.nil ?_
            refine St.then_normal ?_
            refine St.againS (i + 1) (by omega) (by first | omega | (dsimp only; omega)) (by repeat (first | exact Sub.nil | refine Sub.cons (by first | rfl | exact congrArg (fun z => some (iv z)) (by first | omega | (dsimp only; omega)) | exact congrArg (fun z => some (Value.bool z)) (by first | assumption | exact Eq.symm (by assumption))) ?_)) (fun _ hw => hw.sub)
          · skip
            try simp only [Bool.and_true, Bool.true_and, decide_eq_true_eq, decide_eq_false_iff_not, Bool.and_eq_true, Bool.or_eq_true, Bool.and_eq_false_iff, Bool.or_eq_false_iff, Bool.not_eq_true', Bool.not_eq_false', beq_iff_eq, beq_eq_false_iff_ne, Int.not_lt, Int.not_le] at h149
            rw [if_neg (by omega)] at hwd
            refine St.skip ?_
            refine St.in_normal ?_
            refine St.then_normal ?_
            refine St.rg ?_
            refine St.ev _ (Ev.move (Opd.mk rfl)) rfl ?_
            refine St.ev _ (Ev.add (Opd.mk rfl) (Opd.mk rfl) (by omega)) rfl ?_
            refine St.ev _ (Ev.assign (Opd.mk rfl)) rfl ?_
            refine St.nil ?_
            refine St.then_normal ?_
            refine St.againS (i + 1) (by omega) (by first | omega | (dsimp only; omega)) (by repeat (first | exact Sub.nil | refine Sub.cons (by first | rfl | exact congrArg (fun z => some (iv z)) (by first | omega | (dsimp only; omega)) | exact congrArg (fun z => some (Value.bool z)) (by first | assumption | exact Eq.symm (by assumption))) ?_)) (fun _ hw => hw.sub)
        · skip
          try simp only [Bool.and_true, Bool.true_and, decide_eq_true_eq, decide_eq_false_iff_not, Bool.and_eq_true, Bool.or_eq_true, Bool.and_eq_false_iff, Bool.or_eq_false_iff, Bool.not_eq_true', Bool.not_eq_false', beq_iff_eq, beq_eq_false_iff_ne, Int.not_lt, Int.not_le] at h140
          obtain rfl : i = l.length := by omega
          rw [List.take_length]
          refine St.exit ?_
          refine St.then_exit ?_
          refine St.then_exit ?_
          refine St.in_hit ?_
          refine St.then_normal ?_
          refine St.seq ?_
          refine St.rg ?_
          refine St.ev _ (Ev.move (Opd.mk rfl)) rfl ?_
          refine St.ev _ (Ev.move (Opd.mk rfl)) rfl ?_
          refine St.ev _ (Ev.eql (Opd.mk rfl) (Opd.mk rfl)) rfl ?_
          refine St.ev _ (Ev.assign (Opd.mk rfl)) rfl ?_
          refine St.nil ?_
          refine St.then_normal ?_
          refine St.rett ?_
          refine St.rets [_] [] Tryz.results8 ⟨rfl, trivial⟩ ?_ (fun _ hw => hw.sub)
          exact be (by rw [hsm, hwn]; simp)

end Go.Proofs.YtgikcbfdonjggaaGreatDoor
