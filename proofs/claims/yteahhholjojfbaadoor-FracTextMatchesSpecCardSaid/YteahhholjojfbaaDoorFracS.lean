/-
  Plain facts for the walks of the sum and of the comparison of fractions: no program stands here.
  Conditions: none.
-/
import Derived.Test.YteahhholjojfbaaDoorFracR
namespace Go.J
open Go

theorem wide_split (T : Nat) : 18446744073709551616 * (T / 18446744073709551616) + T % 18446744073709551616 = T := Nat.div_add_mod T _
theorem wide_mod (T g : Nat) : (18446744073709551616 * (T / 18446744073709551616 % g) + T % 18446744073709551616) % g = T % g := by
  have h : (18446744073709551616 * (T / 18446744073709551616 % g) + T % 18446744073709551616) % g = (18446744073709551616 * (T / 18446744073709551616) + T % 18446744073709551616) % g := by
    rw [Nat.add_mod, Nat.mul_mod, Nat.mod_mod, ← Nat.mul_mod, ← Nat.add_mod]
  rw [h, wide_split]
theorem wide_div {T h : Nat} (hh : 0 < h) (h0 : T / 18446744073709551616 / h = 0) : (18446744073709551616 * (T / 18446744073709551616 % h) + T % 18446744073709551616) / h = T / h := by
  have h1 : T / 18446744073709551616 < h := by
    rcases Nat.lt_or_ge (T / 18446744073709551616) h with k | k
    · exact k
    · have := Nat.div_pos k hh; omega
  rw [Nat.mod_eq_of_lt h1, wide_split]
theorem wide_big {T h : Nat} (hh : 0 < h) (h0 : T / 18446744073709551616 / h ≠ 0) : 18446744073709551616 ≤ T / h := by
  rw [Nat.div_div_eq_div_mul, Nat.mul_comm, ← Nat.div_div_eq_div_mul] at h0
  generalize T / h = q at *
  omega
theorem wide_lt {T h : Nat} (hh : 0 < h) (h0 : T / 18446744073709551616 / h = 0) : T / h < 18446744073709551616 := by
  rw [Nat.div_div_eq_div_mul, Nat.mul_comm, ← Nat.div_div_eq_div_mul] at h0
  generalize T / h = q at *
  omega
theorem gcd_mod (T g : Nat) : Nat.gcd (T % g) g = Nat.gcd T g := by rw [Nat.gcd_comm T g, Nat.gcd_rec g T]
theorem frOf_neg (neg : Bool) (n d : Nat) : frOf (neg && decide ((0 : Int) < (n : Int))) n d = frOf neg n d := by
  rcases Nat.eq_zero_or_pos n with rfl | h
  · unfold frOf; cases neg <;> simp
  · rw [decide_eq_true (by omega), Bool.and_true]
theorem frOf_big {neg : Bool} {n d : Nat} (h : 1152921504606846976 < n ∨ 1152921504606846976 < d) : frOf neg n d = ((0, 0), (18, 0)) := by unfold frOf; rw [if_pos h]
section
variable {x y : Pr}
theorem frAdd_end (hx : Fr1 x) (hy : Fr1 y) {T G : Nat} {ng : Bool} (hG : G = Nat.gcd x.2.toNat y.2.toNat)
    (hT : T = x.1.natAbs * (y.2.toNat / G) + y.1.natAbs * (x.2.toNat / G) ∨ T + y.1.natAbs * (x.2.toNat / G) = x.1.natAbs * (y.2.toNat / G) ∨ T + x.1.natAbs * (y.2.toNat / G) = y.1.natAbs * (x.2.toNat / G))
    (hF : frAdd x y = frLow ng (T * G) (x.2.toNat * y.2.toNat)) : frAdd x y = frOf ng (T / Nat.gcd T G) (x.2.toNat / G * (y.2.toNat / Nat.gcd T G)) := by
  have h1 := hx.pos
  have h2 := hy.pos
  subst hG
  rw [hF, add_low (by omega) (by omega) hx.cop hy.cop hT]
theorem prod_g {a b d G : Nat} (h : G ∣ d) : a * (d / G) * G = a * d := by rw [Nat.mul_assoc, Nat.div_mul_cancel h]
theorem frAdd_s (hx : Fr1 x) (hy : Fr1 y) {p q G : Nat} (hG : G = Nat.gcd x.2.toNat y.2.toNat) (hp : p = x.1.natAbs * (y.2.toNat / G)) (hq : q = y.1.natAbs * (x.2.toNat / G))
    (h : decide (x.1 < 0) = decide (y.1 < 0)) : frAdd x y = frLow (decide (x.1 < 0)) ((p + q) * G) (x.2.toNat * y.2.toNat) := by
  rw [frAdd_same hx hy h, Nat.add_mul, hp, hq, prod_g (b := x.2.toNat) (hG ▸ Nat.gcd_dvd_right _ _), prod_g (b := y.2.toNat) (hG ▸ Nat.gcd_dvd_left _ _)]
theorem frAdd_l (hx : Fr1 x) (hy : Fr1 y) {p q G : Nat} (hG : G = Nat.gcd x.2.toNat y.2.toNat) (hp : p = x.1.natAbs * (y.2.toNat / G)) (hq : q = y.1.natAbs * (x.2.toNat / G))
    (h : decide (x.1 < 0) ≠ decide (y.1 < 0)) (hl : p < q) : frAdd x y = frLow (!decide (x.1 < 0)) ((q - p) * G) (x.2.toNat * y.2.toNat) := by
  have h1 := hx.pos
  have hg : 0 < G := by rw [hG]; exact Nat.gcd_pos_of_pos_left _ (by omega)
  have e1 : p * G = x.1.natAbs * y.2.toNat := by rw [hp, prod_g (b := x.2.toNat) (hG ▸ Nat.gcd_dvd_right _ _)]
  have e2 : q * G = y.1.natAbs * x.2.toNat := by rw [hq, prod_g (b := y.2.toNat) (hG ▸ Nat.gcd_dvd_left _ _)]
  have e3 : decide (y.1 < 0) = !decide (x.1 < 0) := by
    cases k1 : decide (x.1 < 0) <;> cases k2 : decide (y.1 < 0) <;> simp [k1, k2] at h ⊢
  rw [frAdd_lt hx hy h (by rw [← e1, ← e2]; exact Nat.mul_lt_mul_of_pos_right hl hg), Nat.sub_mul, e1, e2, e3]
theorem frAdd_g (hx : Fr1 x) (hy : Fr1 y) {p q G : Nat} (hG : G = Nat.gcd x.2.toNat y.2.toNat) (hp : p = x.1.natAbs * (y.2.toNat / G)) (hq : q = y.1.natAbs * (x.2.toNat / G))
    (h : decide (x.1 < 0) ≠ decide (y.1 < 0)) (hl : q ≤ p) : frAdd x y = frLow (decide (x.1 < 0)) ((p - q) * G) (x.2.toNat * y.2.toNat) := by
  have e1 : p * G = x.1.natAbs * y.2.toNat := by rw [hp, prod_g (b := x.2.toNat) (hG ▸ Nat.gcd_dvd_right _ _)]
  have e2 : q * G = y.1.natAbs * x.2.toNat := by rw [hq, prod_g (b := y.2.toNat) (hG ▸ Nat.gcd_dvd_left _ _)]
  rw [frAdd_gt hx hy h (by rw [← e1, ← e2]; exact Nat.mul_le_mul_right _ hl), Nat.sub_mul, e1, e2]
/-- comparison, sign by sign -/
theorem frCmp_mp (hx : Fr1 x) (hy : Fr1 y) (h1 : x.1 < 0) (h2 : 0 ≤ y.1) : frCmp x y = -1 := by
  have a1 := hx.pos
  have a2 := hy.pos
  have k1 := Int.mul_neg_of_neg_of_pos h1 (show 0 < y.2 by omega)
  have k2 := Int.mul_nonneg h2 (show 0 ≤ x.2 by omega)
  unfold frCmp; rw [if_pos (by omega)]
theorem frCmp_pm (hx : Fr1 x) (hy : Fr1 y) (h1 : 0 ≤ x.1) (h2 : y.1 < 0) : frCmp x y = 1 := by
  have a1 := hx.pos
  have a2 := hy.pos
  have k1 := Int.mul_neg_of_neg_of_pos h2 (show 0 < x.2 by omega)
  have k2 := Int.mul_nonneg h1 (show 0 ≤ y.2 by omega)
  unfold frCmp; rw [if_neg (by omega), if_neg (by omega)]
theorem frCmp_pp (hx : Fr1 x) (hy : Fr1 y) (h1 : 0 ≤ x.1) (h2 : 0 ≤ y.1) : frCmp x y = if x.1.natAbs * y.2.toNat < y.1.natAbs * x.2.toNat then -1 else if x.1.natAbs * y.2.toNat = y.1.natAbs * x.2.toNat then 0 else 1 := by
  have a1 := hx.pos
  have a2 := hy.pos
  have k1 := int_pos h1 y.2.toNat
  have k2 := int_pos h2 x.2.toNat
  rw [show (y.2.toNat : Int) = y.2 by omega] at k1
  rw [show (x.2.toNat : Int) = x.2 by omega] at k2
  unfold frCmp
  rw [k1, k2]
  generalize x.1.natAbs * y.2.toNat = A
  generalize y.1.natAbs * x.2.toNat = B
  simp only [Int.ofNat_lt, Int.ofNat_inj]
theorem frCmp_mm (hx : Fr1 x) (hy : Fr1 y) (h1 : x.1 < 0) (h2 : y.1 < 0) : frCmp x y = if y.1.natAbs * x.2.toNat < x.1.natAbs * y.2.toNat then -1 else if x.1.natAbs * y.2.toNat = y.1.natAbs * x.2.toNat then 0 else 1 := by
  have a1 := hx.pos
  have a2 := hy.pos
  have k1 := int_neg h1 y.2.toNat
  have k2 := int_neg h2 x.2.toNat
  rw [show (y.2.toNat : Int) = y.2 by omega] at k1
  rw [show (x.2.toNat : Int) = x.2 by omega] at k2
  unfold frCmp
  rw [k1, k2]
  generalize x.1.natAbs * y.2.toNat = A
  generalize y.1.natAbs * x.2.toNat = B
  by_cases h3 : B < A
  · rw [if_pos (by omega), if_pos h3]
  · by_cases h4 : A = B
    · rw [if_neg (by omega), if_pos (by omega), if_neg h3, if_pos h4]
    · rw [if_neg (by omega), if_neg (by omega), if_neg h3, if_neg h4]
end
end Go.J
