/-
  Plain facts on wide numbers and on fractions in lowest terms: no program stands here.
  Conditions: none.
-/
import Derived.Test.YteahhholjojfbaaDoorJP
namespace Go.J
open Go

/-- a number of 64 bits without a sign -/
abbrev uv (n : Nat) : Value := .int .u64 (n : Int)
/-- a wide number -/
abbrev wv (n : Nat) : Value := .agg #[uv (n / 18446744073709551616), uv (n % 18446744073709551616)]

/-! the greatest common divisor -/
theorem gcd_step (a b : Nat) : Nat.gcd b (a % b) = Nat.gcd a b := by
  rw [Nat.gcd_comm a b, Nat.gcd_rec b a, Nat.gcd_comm]
theorem gcd_halves {a b : Nat} (ha : a % 2 = 0) (hb : b % 2 = 0) : Nat.gcd a b = 2 * Nat.gcd (a / 2) (b / 2) := by
  rw [← Nat.gcd_mul_left, show 2 * (a / 2) = a by omega, show 2 * (b / 2) = b by omega]
theorem cop2 {b : Nat} (hb : b % 2 = 1) : Nat.Coprime 2 b := by
  rw [Nat.coprime_iff_gcd_eq_one, Nat.gcd_rec, hb]; rfl
theorem gcd_half_l {a b : Nat} (ha : a % 2 = 0) (hb : b % 2 = 1) : Nat.gcd (a / 2) b = Nat.gcd a b := by
  have h := Nat.Coprime.gcd_mul_left_cancel (a / 2) (cop2 hb)
  rw [show 2 * (a / 2) = a by omega] at h
  exact h.symm
theorem gcd_half_r {a b : Nat} (ha : a % 2 = 1) (hb : b % 2 = 0) : Nat.gcd a (b / 2) = Nat.gcd a b := by
  rw [Nat.gcd_comm, gcd_half_l hb ha, Nat.gcd_comm]
theorem gcd_less {a b : Nat} (h : a ≤ b) : Nat.gcd a (b - a) = Nat.gcd a b := by
  rw [Nat.gcd_sub_self_right h]

/-! fractions -/
abbrev Pr := Int × Int
/-- what a check of a fraction finds -/
def frBad (n d at_ : Int) : Pr :=
  if n < -1152921504606846976 ∨ 1152921504606846976 < n ∨ d < 1 ∨ 1152921504606846976 < d then (3, at_)
  else if Nat.gcd n.natAbs d.toNat = 1 then (0, 0) else (5, at_)
def frBoth (x y : Pr) : Pr := if (frBad x.1 x.2 (-1)).1 = 0 then frBad y.1 y.2 (-2) else frBad x.1 x.2 (-1)
/-- in lowest terms already -/
def frOf (neg : Bool) (n d : Nat) : Pr × Pr :=
  if 1152921504606846976 < n ∨ 1152921504606846976 < d then ((0, 0), (18, 0)) else ((if neg then -(n : Int) else n, d), (0, 0))
/-- of a sign and two numbers -/
def frLow (neg : Bool) (n d : Nat) : Pr × Pr := frOf neg (n / Nat.gcd n d) (d / Nat.gcd n d)
/-- of a number above and one, above 0, below -/
def frNorm (n : Int) (d : Nat) : Pr × Pr := frLow (decide (n < 0)) n.natAbs d
def frMake (n d : Int) : Pr × Pr := if d = 0 then ((0, 0), (19, -2)) else frLow (decide (n < 0) != decide (d < 0)) n.natAbs d.natAbs
def frAdd (x y : Pr) : Pr × Pr := frNorm (x.1 * y.2 + y.1 * x.2) (x.2 * y.2).toNat
def frNeg (y : Pr) : Pr := (-y.1, y.2)
def frMul (x y : Pr) : Pr × Pr := frNorm (x.1 * y.1) (x.2 * y.2).toNat
/-- the inverse -/
def frInv (y : Pr) : Pr := if y.1 < 0 then (-y.2, -y.1) else (y.2, y.1)
def frDo (k : Nat) (x y : Pr) : Pr × Pr :=
  if (frBoth x y).1 = 0 then
    match k with
    | 0 => frAdd x y
    | 1 => frAdd x (frNeg y)
    | 2 => frMul x y
    | _ => if y.1 = 0 then ((0, 0), (19, -2)) else frMul x (frInv y)
  else ((0, 0), frBoth x y)
def frCmp (x y : Pr) : Int := if x.1 * y.2 < y.1 * x.2 then -1 else if x.1 * y.2 = y.1 * x.2 then 0 else 1
def frCompare (x y : Pr) : Int × Pr := if (frBoth x y).1 = 0 then (frCmp x y, (0, 0)) else (0, frBoth x y)

/-- a valid fraction -/
structure Fr1 (x : Pr) : Prop where
  lo : -1152921504606846976 ≤ x.1
  hi : x.1 ≤ 1152921504606846976
  pos : 1 ≤ x.2
  big : x.2 ≤ 1152921504606846976
  cop : Nat.gcd x.1.natAbs x.2.toNat = 1

theorem frBad_iff {n d at_ : Int} : (frBad n d at_).1 = 0 ↔ Fr1 (n, d) := by
  unfold frBad
  split
  · rename_i h
    constructor
    · intro h1; simp at h1
    · rintro ⟨h1, h2, h3, h4, h5⟩; simp only at h1 h2 h3 h4; omega
  · rename_i h
    split
    · rename_i h1
      exact ⟨fun _ => ⟨by simp only; omega, by simp only; omega, by simp only; omega, by simp only; omega, h1⟩, fun _ => rfl⟩
    · rename_i h1
      constructor
      · intro h1; simp at h1
      · rintro ⟨_, _, _, _, h5⟩; exact absurd h5 h1
theorem frBad_ok {n d at_ : Int} (h : Fr1 (n, d)) : frBad n d at_ = (0, 0) := by
  have h1 := frBad_iff (at_ := at_).2 h
  unfold frBad at h1 ⊢
  split
  · rename_i h2; rw [if_pos h2] at h1; simp at h1
  · rename_i h2
    rw [if_neg h2] at h1
    split
    · rfl
    · rename_i h3; rw [if_neg h3] at h1; simp at h1
theorem frBoth_iff {x y : Pr} : (frBoth x y).1 = 0 ↔ Fr1 x ∧ Fr1 y := by
  unfold frBoth
  split
  · rename_i h
    rw [frBad_iff] at h ⊢
    exact ⟨fun k => ⟨h, k⟩, fun k => k.2⟩
  · rename_i h
    constructor
    · intro k; exact absurd k h
    · rintro ⟨k, _⟩; exact absurd (frBad_iff.2 k) h
theorem frBoth_ok {x y : Pr} (hx : Fr1 x) (hy : Fr1 y) : frBoth x y = (0, 0) := by
  unfold frBoth
  rw [if_pos (frBad_iff.2 hx), frBad_ok hy]
end Go.J
