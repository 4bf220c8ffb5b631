/-
  Plain facts on the steps of multiplication, of the greatest common divisor and of division, bit by bit: no program stands here.
  Conditions: none.
-/
import Derived.Test.YteahhholjojfbaaDoorFracP
namespace Go.J
open Go

theorem mod_step (o y d w : Nat) : (o % w + y % w * d) % w = (o + y * d) % w := by
  rw [Nat.add_mod, Nat.mod_mod, Nat.mul_mod, Nat.mod_mod, ← Nat.mul_mod, ← Nat.add_mod]
theorem wmul_t {o x c n w : Nat} (h : (o + x * c) % w = n) (hc : c % 2 = 1) : ((o + x) % w + (x + x) % w * (c / 2)) % w = n := by
  rw [mod_step, ← h]
  have e : c = 2 * (c / 2) + 1 := by omega
  generalize c / 2 = d at *
  subst e
  congr 1
  grind
theorem wmul_f {o x c n w : Nat} (h : (o + x * c) % w = n) (hc : c % 2 = 0) : (o + (x + x) % w * (c / 2)) % w = n := by
  have e : c = 2 * (c / 2) := by omega
  generalize c / 2 = d at *
  subst e
  rw [← h, Nat.add_mod, Nat.mul_mod, Nat.mod_mod, ← Nat.mul_mod, ← Nat.add_mod]
  congr 1
  grind

/-- the first round of the divisor: both are halved k times -/
def GcdI (a b : Nat) (x : Nat × Nat × Nat) : Prop :=
  0 < x.1 ∧ 0 < x.2.1 ∧ x.1 < 340282366920938463463374607431768211456 ∧ x.2.1 < 340282366920938463463374607431768211456 ∧ 2 ^ x.2.2 * x.1 = a ∧ 2 ^ x.2.2 * Nat.gcd x.1 x.2.1 = Nat.gcd a b
theorem gcd_k {x k a : Nat} (h : 0 < x) (he : 2 ^ k * x = a) (ha : a < 340282366920938463463374607431768211456) : k < 128 := by
  have h1 : 2 ^ k ≤ 2 ^ k * x := Nat.le_mul_of_pos_right _ h
  have h2 : 2 ^ k < 2 ^ 128 := by rw [he] at h1; exact Nat.lt_of_le_of_lt h1 ha
  exact (Nat.pow_lt_pow_iff_right (by decide)).1 h2
theorem gcdI_half {a b : Nat} {x : Nat × Nat × Nat} (h : GcdI a b x) (h1 : x.1 % 2 = 0) (h2 : x.2.1 % 2 = 0) : GcdI a b (x.1 / 2, x.2.1 / 2, x.2.2 + 1) := by
  obtain ⟨g1, g2, g3, g4, g5, g6⟩ := h
  refine ⟨by dsimp only; omega, by dsimp only; omega, by dsimp only; omega, by dsimp only; omega, ?_, ?_⟩
  · dsimp only
    rw [Nat.pow_succ, Nat.mul_assoc, show 2 * (x.1 / 2) = x.1 by omega, g5]
  · dsimp only
    rw [gcd_halves h1 h2] at g6
    rw [Nat.pow_succ, Nat.mul_assoc, g6]
theorem gcd_lt {a w : Nat} (b : Nat) (h : 0 < a) (ha : a < w) : Nat.gcd a b < w := Nat.lt_of_le_of_lt (Nat.gcd_le_left b h) ha
theorem pow_mul_le {i k x g : Nat} (h : i ≤ k) (he : 2 ^ k * x ≤ g) : 2 ^ i * x ≤ g :=
  Nat.le_trans (Nat.mul_le_mul_right _ (Nat.pow_le_pow_right (by decide) h)) he
theorem pow_twice {i x g w : Nat} (h : 2 ^ (i + 1) * x ≤ g) (hg : g < w) : (2 ^ i * x + 2 ^ i * x) % w = 2 ^ (i + 1) * x := by
  have e : 2 ^ (i + 1) * x = 2 ^ i * x + 2 ^ i * x := by rw [Nat.pow_succ]; grind
  rw [← e, Nat.mod_eq_of_lt (Nat.lt_of_le_of_lt h hg)]

theorem div_step_t {A b t : Nat} (hb : 0 < b) (h : b ≤ 2 * (A % b) + t) (ht : t < 2) : (2 * A + t) / b = 2 * (A / b) + 1 ∧ (2 * A + t) % b = 2 * (A % b) + t - b := by
  have h1 := Nat.mod_lt A hb
  have h2 := Nat.div_add_mod A b
  refine (Nat.div_mod_unique hb).2 ⟨?_, by omega⟩
  rw [Nat.mul_add, Nat.mul_one, Nat.mul_left_comm]
  omega
theorem div_step_f {A b t : Nat} (hb : 0 < b) (h : 2 * (A % b) + t < b) : (2 * A + t) / b = 2 * (A / b) ∧ (2 * A + t) % b = 2 * (A % b) + t := by
  have h2 := Nat.div_add_mod A b
  refine (Nat.div_mod_unique hb).2 ⟨?_, h⟩
  rw [Nat.mul_left_comm]
  omega
theorem bit_hi {a j : Nat} (hj : j < 64) : a / 18446744073709551616 / 2 ^ (63 - j) = a / 2 ^ (127 - j) := by
  rw [Nat.div_div_eq_div_mul, show 18446744073709551616 = 2 ^ 64 by decide, ← Nat.pow_add, show 64 + (63 - j) = 127 - j by omega]
theorem bit_lo {a j : Nat} (h1 : 64 ≤ j) (h2 : j ≤ 127) : a % 18446744073709551616 / 2 ^ (127 - j) % 2 = a / 2 ^ (127 - j) % 2 := by
  have h := Nat.testBit_mod_two_pow a 64 (127 - j)
  rw [Nat.testBit_eq_decide_div_mod_eq, Nat.testBit_eq_decide_div_mod_eq] at h
  rw [decide_eq_true (show 127 - j < 64 by omega), Bool.true_and, decide_eq_decide] at h
  rw [show (18446744073709551616 : Nat) = 2 ^ 64 by decide]
  omega
theorem half_pow (a : Nat) {j : Nat} (h : j < 128) : a / 2 ^ (128 - j) = a / 2 ^ (127 - j) / 2 := by
  rw [Nat.div_div_eq_div_mul, ← Nat.pow_succ, show (127 - j).succ = 128 - j by omega]
end Go.J
