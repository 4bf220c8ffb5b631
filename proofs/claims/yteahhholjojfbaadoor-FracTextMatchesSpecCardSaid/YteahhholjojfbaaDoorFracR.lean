/-
  Plain facts on the sum and the product of fractions in lowest terms: no program stands here.
  Conditions: none.
-/
import Derived.Test.YteahhholjojfbaaDoorFracQ
namespace Go.J
open Go

theorem frOf_zero (neg : Bool) : frOf neg 0 1 = ((0, 1), (0, 0)) := by unfold frOf; cases neg <;> simp
theorem frLow_zero (neg : Bool) {d : Nat} (h : 0 < d) : frLow neg 0 d = ((0, 1), (0, 0)) := by
  unfold frLow; rw [Nat.gcd_zero_left, Nat.zero_div, Nat.div_self h, frOf_zero]
theorem frNorm_pos (n d : Nat) : frNorm (n : Int) d = frLow false n d := by
  unfold frNorm; rw [decide_eq_false (by omega), Int.natAbs_natCast]
theorem frNorm_neg (n : Nat) {d : Nat} (hd : 0 < d) : frNorm (-(n : Int)) d = frLow true n d := by
  unfold frNorm
  rcases Nat.eq_zero_or_pos n with rfl | h
  · simp only [Int.natAbs_neg, Int.natAbs_natCast]; rw [frLow_zero _ hd, frLow_zero _ hd]
  · rw [decide_eq_true (by omega), Int.natAbs_neg, Int.natAbs_natCast]
theorem mul_sign {a b : Int} (h : a * b ≠ 0) : decide (a * b < 0) = (decide (a < 0) != decide (b < 0)) := by
  have ha : a ≠ 0 := fun e => h (by rw [e, Int.zero_mul])
  have hb : b ≠ 0 := fun e => h (by rw [e, Int.mul_zero])
  rcases Int.lt_or_gt_of_ne ha with h1 | h1 <;> rcases Int.lt_or_gt_of_ne hb with h2 | h2
  · have := Int.mul_pos_of_neg_of_neg h1 h2
    rw [decide_eq_false (by omega), decide_eq_true h1, decide_eq_true h2]; rfl
  · have := Int.mul_neg_of_neg_of_pos h1 h2
    rw [decide_eq_true (by omega), decide_eq_true h1, decide_eq_false (by omega)]; rfl
  · have := Int.mul_neg_of_pos_of_neg h1 h2
    rw [decide_eq_true (by omega), decide_eq_false (by omega), decide_eq_true h2]; rfl
  · have := Int.mul_pos h1 h2
    rw [decide_eq_false (by omega), decide_eq_false (by omega), decide_eq_false (by omega)]; rfl
theorem toNat_mul {a b : Int} (ha : 0 ≤ a) (hb : 0 ≤ b) : (a * b).toNat = a.toNat * b.toNat := by
  obtain ⟨x, rfl⟩ := Int.eq_ofNat_of_zero_le ha
  obtain ⟨y, rfl⟩ := Int.eq_ofNat_of_zero_le hb
  rw [← Int.natCast_mul, Int.toNat_natCast, Int.toNat_natCast, Int.toNat_natCast]
theorem frMul_eq {x y : Pr} (hx : Fr1 x) (hy : Fr1 y) : frMul x y = frLow (decide (x.1 < 0) != decide (y.1 < 0)) (x.1.natAbs * y.1.natAbs) (x.2.toNat * y.2.toNat) := by
  have h1 := hx.pos
  have h2 := hy.pos
  unfold frMul frNorm
  rw [Int.natAbs_mul, toNat_mul (by omega) (by omega)]
  by_cases h : x.1 * y.1 = 0
  · have : x.1.natAbs * y.1.natAbs = 0 := by rw [← Int.natAbs_mul, h]; rfl
    have hp : 0 < x.2.toNat * y.2.toNat := Nat.mul_pos (by omega) (by omega)
    rw [this, frLow_zero _ hp, frLow_zero _ hp]
  · rw [mul_sign h]
theorem frInv_ok {y : Pr} (hy : Fr1 y) (h0 : y.1 ≠ 0) : Fr1 (frInv y) := by
  obtain ⟨h1, h2, h3, h4, h5⟩ := hy
  unfold frInv
  split
  · refine ⟨by dsimp only; omega, by dsimp only; omega, by dsimp only; omega, by dsimp only; omega, ?_⟩
    dsimp only
    rw [Nat.gcd_comm, show (-y.2).natAbs = y.2.toNat by omega, show (-y.1).toNat = y.1.natAbs by omega]; exact h5
  · refine ⟨by dsimp only; omega, by dsimp only; omega, by dsimp only; omega, by dsimp only; omega, ?_⟩
    dsimp only
    rw [Nat.gcd_comm, show y.2.natAbs = y.2.toNat by omega, show y.1.toNat = y.1.natAbs by omega]; exact h5
theorem frNeg_ok {y : Pr} (hy : Fr1 y) : Fr1 (frNeg y) := by
  obtain ⟨h1, h2, h3, h4, h5⟩ := hy
  unfold frNeg
  exact ⟨by dsimp only; omega, by dsimp only; omega, h3, h4, by dsimp only; rw [Int.natAbs_neg]; exact h5⟩
theorem frDiv_eq {x y : Pr} (hx : Fr1 x) (hy : Fr1 y) (h0 : y.1 ≠ 0) : frMul x (frInv y) = frLow (decide (x.1 < 0) != decide (y.1 < 0)) (x.1.natAbs * y.2.toNat) (x.2.toNat * y.1.natAbs) := by
  rw [frMul_eq hx (frInv_ok hy h0)]
  have h3 := hy.pos
  unfold frInv
  split
  · rename_i h
    dsimp only
    rw [show (-y.2).natAbs = y.2.toNat by omega, show (-y.1).toNat = y.1.natAbs by omega, decide_eq_true (show -y.2 < 0 by omega), decide_eq_true h]
  · rename_i h
    dsimp only
    rw [show y.2.natAbs = y.2.toNat by omega, show y.1.toNat = y.1.natAbs by omega, decide_eq_false (show ¬ y.2 < 0 by omega), decide_eq_false h]

section
variable {x y : Pr}
/-- numerators without their signs -/
theorem frAdd_nat (hx : Fr1 x) (hy : Fr1 y) : frAdd x y = frNorm (x.1 * (y.2.toNat : Int) + y.1 * (x.2.toNat : Int)) (x.2.toNat * y.2.toNat) := by
  have h1 := hx.pos
  have h2 := hy.pos
  unfold frAdd
  rw [toNat_mul (by omega) (by omega), show (y.2.toNat : Int) = y.2 by omega, show (x.2.toNat : Int) = x.2 by omega]
theorem fr_dpos (hx : Fr1 x) (hy : Fr1 y) : 0 < x.2.toNat * y.2.toNat := by
  have h1 := hx.pos
  have h2 := hy.pos
  exact Nat.mul_pos (by omega) (by omega)
theorem int_pos {a : Int} (h : 0 ≤ a) (b : Nat) : a * (b : Int) = ((a.natAbs * b : Nat) : Int) := by
  rw [Int.natCast_mul, show (a.natAbs : Int) = a by omega]
theorem int_neg {a : Int} (h : a < 0) (b : Nat) : a * (b : Int) = -((a.natAbs * b : Nat) : Int) := by
  rw [Int.natCast_mul, show (a.natAbs : Int) = -a by omega, Int.neg_mul, Int.neg_neg]
theorem frAdd_same (hx : Fr1 x) (hy : Fr1 y) (h : decide (x.1 < 0) = decide (y.1 < 0)) : frAdd x y = frLow (decide (x.1 < 0)) (x.1.natAbs * y.2.toNat + y.1.natAbs * x.2.toNat) (x.2.toNat * y.2.toNat) := by
  rw [frAdd_nat hx hy]
  rw [decide_eq_decide] at h
  by_cases h1 : x.1 < 0
  · rw [decide_eq_true h1, int_neg h1, int_neg (h.1 h1), ← frNorm_neg _ (fr_dpos hx hy)]
    congr 1; omega
  · have h2 : ¬ y.1 < 0 := fun k => h1 (h.2 k)
    rw [decide_eq_false h1, int_pos (by omega), int_pos (by omega), ← frNorm_pos]
    congr 1
theorem frAdd_lt (hx : Fr1 x) (hy : Fr1 y) (h : decide (x.1 < 0) ≠ decide (y.1 < 0)) (hl : x.1.natAbs * y.2.toNat < y.1.natAbs * x.2.toNat) :
    frAdd x y = frLow (decide (y.1 < 0)) (y.1.natAbs * x.2.toNat - x.1.natAbs * y.2.toNat) (x.2.toNat * y.2.toNat) := by
  rw [frAdd_nat hx hy]
  by_cases h1 : x.1 < 0
  · have h2 : ¬ y.1 < 0 := fun k => h (by rw [decide_eq_true h1, decide_eq_true k])
    rw [decide_eq_false h2, int_neg h1, int_pos (by omega), ← frNorm_pos]
    congr 1; omega
  · have h2 : y.1 < 0 := by
      apply Decidable.byContradiction
      intro k
      exact h (by rw [decide_eq_false h1, decide_eq_false k])
    rw [decide_eq_true h2, int_pos (by omega), int_neg h2, ← frNorm_neg _ (fr_dpos hx hy)]
    congr 1; omega
theorem frAdd_gt (hx : Fr1 x) (hy : Fr1 y) (h : decide (x.1 < 0) ≠ decide (y.1 < 0)) (hl : y.1.natAbs * x.2.toNat ≤ x.1.natAbs * y.2.toNat) :
    frAdd x y = frLow (decide (x.1 < 0)) (x.1.natAbs * y.2.toNat - y.1.natAbs * x.2.toNat) (x.2.toNat * y.2.toNat) := by
  rw [frAdd_nat hx hy]
  by_cases h1 : x.1 < 0
  · have h2 : ¬ y.1 < 0 := fun k => h (by rw [decide_eq_true h1, decide_eq_true k])
    rw [decide_eq_true h1, int_neg h1, int_pos (by omega), ← frNorm_neg _ (fr_dpos hx hy)]
    congr 1; omega
  · have h2 : y.1 < 0 := by
      apply Decidable.byContradiction
      intro k
      exact h (by rw [decide_eq_false h1, decide_eq_false k])
    rw [decide_eq_false h1, int_pos (by omega), int_neg h2, ← frNorm_pos]
    congr 1; omega
end

/-! lowest terms out of parts -/
theorem cop_of {m n : Nat} (h : ∀ k, k ∣ m → k ∣ n → k ∣ 1) : Nat.gcd m n = 1 := Nat.dvd_one.1 (h _ (Nat.gcd_dvd_left m n) (Nat.gcd_dvd_right m n))
theorem mul_low {a b c d : Nat} (hb : 0 < b) (hd : 0 < d) (hab : Nat.gcd a b = 1) (hcd : Nat.gcd c d = 1) (neg : Bool) :
    frLow neg (a * c) (b * d) = frOf neg (a / Nat.gcd a d * (c / Nat.gcd c b)) (b / Nat.gcd c b * (d / Nat.gcd a d)) := by
  have hg : 0 < Nat.gcd a d := Nat.gcd_pos_of_pos_right _ hd
  have hh : 0 < Nat.gcd c b := Nat.gcd_pos_of_pos_right _ hb
  have k1 := Nat.coprime_div_gcd_div_gcd hg
  have k2 := Nat.coprime_div_gcd_div_gcd hh
  have e1 := Nat.div_mul_cancel (Nat.gcd_dvd_left a d)
  have e2 := Nat.div_mul_cancel (Nat.gcd_dvd_right a d)
  have e3 := Nat.div_mul_cancel (Nat.gcd_dvd_left c b)
  have e4 := Nat.div_mul_cancel (Nat.gcd_dvd_right c b)
  generalize Nat.gcd a d = g at *
  generalize Nat.gcd c b = h at *
  generalize a / g = a' at *
  generalize d / g = d' at *
  generalize c / h = c' at *
  generalize b / h = b' at *
  subst e1 e2 e3 e4
  have k3 : Nat.Coprime a' b' := cop_of fun k h1 h2 => hab ▸ Nat.dvd_gcd (Nat.dvd_mul_right_of_dvd h1 g) (Nat.dvd_mul_right_of_dvd h2 h)
  have k4 : Nat.Coprime c' d' := cop_of fun k h1 h2 => hcd ▸ Nat.dvd_gcd (Nat.dvd_mul_right_of_dvd h1 h) (Nat.dvd_mul_right_of_dvd h2 g)
  have k5 : Nat.gcd (a' * c') (b' * d') = 1 := Nat.Coprime.mul_left (Nat.Coprime.mul_right k3 k1) (Nat.Coprime.mul_right k2 k4)
  have eN : a' * g * (c' * h) = g * h * (a' * c') := by grind
  have eD : b' * h * (d' * g) = g * h * (b' * d') := by grind
  unfold frLow
  rw [eN, eD, Nat.gcd_mul_left, k5, Nat.mul_one, Nat.mul_div_cancel_left _ (Nat.mul_pos hg hh), Nat.mul_div_cancel_left _ (Nat.mul_pos hg hh)]
theorem add_low {a b c d T : Nat} (hb : 0 < b) (hd : 0 < d) (hab : Nat.gcd a b = 1) (hcd : Nat.gcd c d = 1)
    (hT : T = a * (d / Nat.gcd b d) + c * (b / Nat.gcd b d) ∨ T + c * (b / Nat.gcd b d) = a * (d / Nat.gcd b d) ∨ T + a * (d / Nat.gcd b d) = c * (b / Nat.gcd b d)) (neg : Bool) :
    frLow neg (T * Nat.gcd b d) (b * d) = frOf neg (T / Nat.gcd T (Nat.gcd b d)) (b / Nat.gcd b d * (d / Nat.gcd T (Nat.gcd b d))) := by
  have hg : 0 < Nat.gcd b d := Nat.gcd_pos_of_pos_right _ hd
  have k1 := Nat.coprime_div_gcd_div_gcd hg
  have e1 := Nat.div_mul_cancel (Nat.gcd_dvd_left b d)
  have e2 := Nat.div_mul_cancel (Nat.gcd_dvd_right b d)
  generalize Nat.gcd b d = g at *
  generalize b / g = b' at *
  have hhd : Nat.gcd T g ∣ d := by rw [← e2]; exact Nat.dvd_mul_left_of_dvd (Nat.gcd_dvd_right T g) _
  have hh : 0 < Nat.gcd T g := Nat.gcd_pos_of_pos_right _ hg
  have q1 : ∀ k, k ∣ T → k ∣ c * b' → k ∣ a * (d / g) := fun k h1 h2 => by
    rcases hT with h | h | h
    · exact (Nat.dvd_add_left h2).1 (h ▸ h1)
    · rw [← h]; exact Nat.dvd_add h1 h2
    · exact (Nat.dvd_add_right h1).1 (h ▸ h2)
  have q2 : ∀ k, k ∣ T → k ∣ a * (d / g) → k ∣ c * b' := fun k h1 h2 => by
    rcases hT with h | h | h
    · exact (Nat.dvd_add_right h2).1 (h ▸ h1)
    · exact (Nat.dvd_add_right h1).1 (h ▸ h2)
    · rw [← h]; exact Nat.dvd_add h1 h2
  generalize hd' : d / g = d' at *
  have k3 : Nat.Coprime T b' := cop_of fun k h1 h2 => by
    have h3 := q1 k h1 (Nat.dvd_mul_left_of_dvd h2 _)
    have h4 : Nat.Coprime k a := cop_of fun j j1 j2 => hab ▸ Nat.dvd_gcd j2 (Nat.dvd_trans j1 (by rw [← e1]; exact Nat.dvd_mul_right_of_dvd h2 _))
    have h5 := h4.dvd_of_dvd_mul_left h3
    exact k1 ▸ Nat.dvd_gcd h2 h5
  have k4 : Nat.Coprime T d' := cop_of fun k h1 h2 => by
    have h3 := q2 k h1 (Nat.dvd_mul_left_of_dvd h2 _)
    have h4 : Nat.Coprime k c := cop_of fun j j1 j2 => hcd ▸ Nat.dvd_gcd j2 (Nat.dvd_trans j1 (by rw [← e2]; exact Nat.dvd_mul_right_of_dvd h2 _))
    have h5 := h4.dvd_of_dvd_mul_left h3
    exact k1 ▸ Nat.dvd_gcd h5 h2
  have k5 : Nat.gcd T (b' * d) = Nat.gcd T g := by
    rw [← e2, ← Nat.mul_assoc]
    exact Nat.Coprime.gcd_mul_left_cancel_right g (Nat.Coprime.mul_right k3 k4).symm
  have eD : b * d = g * (b' * d) := by rw [← e1]; grind
  unfold frLow
  rw [eD, Nat.mul_comm T g, Nat.gcd_mul_left, k5, Nat.mul_div_mul_left _ _ hg, Nat.mul_div_mul_left _ _ hg, Nat.mul_div_assoc _ hhd]
end Go.J
