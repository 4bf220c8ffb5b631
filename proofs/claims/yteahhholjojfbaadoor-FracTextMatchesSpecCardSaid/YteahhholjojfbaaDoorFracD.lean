/-
  Plain facts on the division of a number of two digits, and on the length of a number: no program stands here.
  Conditions: none.
-/
import Derived.Test.YteahhholjojfbaaDoorFracQ
namespace Go.J
open Go

def len64 (x : Nat) : Nat := if x = 0 then 0 else Nat.log2 x + 1
theorem len64_shift {x : Nat} (k : Nat) (h : 2 ^ k ≤ x) : len64 x = k + len64 (x / 2 ^ k) := by
  have hp : 0 < 2 ^ k := Nat.pow_pos (by decide)
  have h0 : x ≠ 0 := by omega
  have h1 : x / 2 ^ k ≠ 0 := by have := Nat.div_pos h hp; omega
  unfold len64
  rw [if_neg h0, if_neg h1]
  have e : Nat.log2 x = Nat.log2 (x / 2 ^ k) + k := by
    rw [Nat.log2_eq_iff h0]
    have h2 := Nat.log2_self_le h1
    have h3 := Nat.lt_log2_self (n := x / 2 ^ k)
    rw [Nat.le_div_iff_mul_le hp] at h2
    rw [Nat.div_lt_iff_lt_mul hp] at h3
    refine ⟨by rwa [Nat.pow_add], ?_⟩
    rw [show Nat.log2 (x / 2 ^ k) + k + 1 = Nat.log2 (x / 2 ^ k) + 1 + k by omega, Nat.pow_add]
    exact h3
  omega
theorem len64_32 {x : Nat} (h : (4294967296 : Int) ≤ (x : Int)) : len64 x = 32 + len64 (x / 4294967296) := len64_shift 32 (by omega)
theorem len64_16 {x : Nat} (h : (65536 : Int) ≤ (x : Int)) : len64 x = 16 + len64 (x / 65536) := len64_shift 16 (by omega)
theorem len64_8 {x : Nat} (h : (256 : Int) ≤ (x : Int)) : len64 x = 8 + len64 (x / 256) := len64_shift 8 (by omega)
def len8tab : List UInt8 := ([0, 1, 2, 2, 3, 3, 3, 3, 4, 4, 4, 4, 4, 4, 4, 4, 5, 5, 5, 5, 5, 5, 5, 5, 5, 5, 5, 5, 5, 5, 5, 5, 6, 6, 6, 6, 6, 6, 6, 6, 6, 6, 6, 6, 6, 6, 6, 6, 6, 6, 6, 6, 6, 6, 6, 6, 6, 6, 6, 6, 6, 6, 6, 6].append [7, 7, 7, 7, 7, 7, 7, 7, 7, 7, 7, 7, 7, 7, 7, 7, 7, 7, 7, 7, 7, 7, 7, 7, 7, 7, 7, 7, 7, 7, 7, 7, 7, 7, 7, 7, 7, 7, 7, 7, 7, 7, 7, 7, 7, 7, 7, 7, 7, 7, 7, 7, 7, 7, 7, 7, 7, 7, 7, 7, 7, 7, 7, 7]).append ([8, 8, 8, 8, 8, 8, 8, 8, 8, 8, 8, 8, 8, 8, 8, 8, 8, 8, 8, 8, 8, 8, 8, 8, 8, 8, 8, 8, 8, 8, 8, 8, 8, 8, 8, 8, 8, 8, 8, 8, 8, 8, 8, 8, 8, 8, 8, 8, 8, 8, 8, 8, 8, 8, 8, 8, 8, 8, 8, 8, 8, 8, 8, 8].append [8, 8, 8, 8, 8, 8, 8, 8, 8, 8, 8, 8, 8, 8, 8, 8, 8, 8, 8, 8, 8, 8, 8, 8, 8, 8, 8, 8, 8, 8, 8, 8, 8, 8, 8, 8, 8, 8, 8, 8, 8, 8, 8, 8, 8, 8, 8, 8, 8, 8, 8, 8, 8, 8, 8, 8, 8, 8, 8, 8, 8, 8, 8, 8])
theorem len8tab_get : ∀ k, k < 256 → (len8tab.getD k 0).toNat = len64 k := by decide +kernel
theorem len64_le {x : Nat} (h : x < 18446744073709551616) : len64 x ≤ 64 := by
  unfold len64
  split
  · omega
  · rename_i h0
    have := (Nat.log2_lt h0 (k := 64)).2 (by omega)
    omega
/-- moved to the left as far as can be -/
theorem len64_norm {y : Nat} (h0 : 0 < y) (h : y < 18446744073709551616) : 9223372036854775808 ≤ y * 2 ^ (64 - len64 y) ∧ y * 2 ^ (64 - len64 y) < 18446744073709551616 := by
  have hl := len64_le h
  have e : len64 y = Nat.log2 y + 1 := by unfold len64; rw [if_neg (by omega)]
  have h1 := Nat.log2_self_le (n := y) (by omega)
  have h2 := Nat.lt_log2_self (n := y)
  have e1 : 2 ^ Nat.log2 y * 2 ^ (64 - len64 y) = 9223372036854775808 := by
    rw [← Nat.pow_add, show Nat.log2 y + (64 - len64 y) = 63 by omega]
  have e2 : 2 ^ (Nat.log2 y + 1) * 2 ^ (64 - len64 y) = 18446744073709551616 := by
    rw [← Nat.pow_add, show Nat.log2 y + 1 + (64 - len64 y) = 64 by omega]
  constructor
  · rw [← e1]; exact Nat.mul_le_mul_right _ h1
  · rw [← e2]; exact Nat.mul_lt_mul_of_pos_right h2 (Nat.pow_pos (by decide))

/-- a digit of the quotient: what the loop keeps -/
structure DivI (u v t : Nat) (x : Nat × Nat) : Prop where
  sum : x.1 * (v / 4294967296) + x.2 = u
  low : (4294967296 * u + t) / v ≤ x.1
  top : x.1 ≤ 4294967298
  rem : x.2 < 4294967296
section
variable {u v t : Nat}
theorem divI_init (hv : 9223372036854775808 ≤ v) (hv2 : v < 18446744073709551616) (hu : u < v) (ht : t < 4294967296) : DivI u v t (u / (v / 4294967296), u - u / (v / 4294967296) * (v / 4294967296)) := by
  have hp : 0 < v / 4294967296 := by omega
  have h1 := Nat.div_add_mod u (v / 4294967296)
  have h2 := Nat.mod_lt u hp
  have h3 : u / (v / 4294967296) * (v / 4294967296) ≤ u := Nat.div_mul_le_self u _
  rw [Nat.mul_comm] at h1
  refine ⟨by dsimp only; omega, ?_, ?_, by dsimp only; omega⟩
  · dsimp only
    rw [Nat.le_div_iff_mul_le hp]
    have h4 := Nat.div_mul_le_self (4294967296 * u + t) v
    generalize (4294967296 * u + t) / v = Q at h4
    have h5 : Q * v = 4294967296 * (Q * (v / 4294967296)) + Q * (v % 4294967296) := by
      have e : v = 4294967296 * (v / 4294967296) + v % 4294967296 := by omega
      generalize v / 4294967296 = p at *
      generalize v % 4294967296 = q at *
      subst e
      grind
    generalize Q * (v / 4294967296) = A at *
    generalize Q * (v % 4294967296) = C at *
    omega
  · dsimp only
    have : u / (v / 4294967296) < 4294967299 := by
      rw [Nat.div_lt_iff_lt_mul hp]
      omega
    omega
theorem divI_more (hv : 9223372036854775808 ≤ v) (hv2 : v < 18446744073709551616) (hu : u < v) (ht : t < 4294967296) {x : Nat × Nat} (h : DivI u v t x) (hc : 4294967296 ≤ x.1 ∨ 4294967296 * x.2 + t < x.1 * (v % 4294967296)) :
    (4294967296 * u + t) / v ≤ x.1 - 1 ∧ 0 < x.1 ∧ (x.1 - 1) * (v / 4294967296) + (x.2 + v / 4294967296) = u := by
  obtain ⟨h1, h2, h3, h4⟩ := h
  have hpos : 0 < x.1 := by
    rcases hc with hc | hc
    · omega
    · rcases Nat.eq_zero_or_pos x.1 with e | e
      · rw [e, Nat.zero_mul] at hc; omega
      · exact e
  have e1 : (x.1 - 1) * (v / 4294967296) + (x.2 + v / 4294967296) = u := by
    obtain ⟨q, hq⟩ : ∃ q, x.1 = q + 1 := ⟨x.1 - 1, by omega⟩
    rw [hq] at h1 ⊢
    rw [Nat.add_sub_cancel, ← h1, Nat.add_mul]
    omega
  refine ⟨?_, hpos, e1⟩
  have : (4294967296 * u + t) / v < x.1 := by
    rw [Nat.div_lt_iff_lt_mul (by omega)]
    rcases hc with hc | hc
    · have h6 := Nat.mul_le_mul_right v hc
      generalize x.1 * v = A at *
      omega
    · have h5 : x.1 * v = 4294967296 * (x.1 * (v / 4294967296)) + x.1 * (v % 4294967296) := by
        have e : v = 4294967296 * (v / 4294967296) + v % 4294967296 := by omega
        generalize v / 4294967296 = p at *
        generalize v % 4294967296 = q at *
        subst e
        grind
      rw [h5]
      clear h5 e1 h2
      generalize x.1 * (v / 4294967296) = A at *
      generalize x.1 * (v % 4294967296) = C at *
      omega
  exact Nat.le_sub_one_of_lt this
theorem div_exact (hv : 9223372036854775808 ≤ v) {q : Nat} (h1 : (4294967296 * u + t) / v ≤ q) (h2 : q * v ≤ 4294967296 * u + t) : q = (4294967296 * u + t) / v := by
  have := (Nat.le_div_iff_mul_le (show 0 < v by omega)).2 h2
  omega
theorem mul_split (q v : Nat) : q * v = 4294967296 * (q * (v / 4294967296)) + q * (v % 4294967296) := by
  have e : v = 4294967296 * (v / 4294967296) + v % 4294967296 := by omega
  generalize v / 4294967296 = p at *
  generalize v % 4294967296 = r at *
  subst e
  grind
/-- the loop's end: the test fails -/
theorem divI_stop (hv : 9223372036854775808 ≤ v) {x : Nat × Nat} (h : DivI u v t x) (hc : x.1 * (v % 4294967296) ≤ 4294967296 * x.2 + t) : x.1 = (4294967296 * u + t) / v := by
  obtain ⟨h1, h2, h3, h4⟩ := h
  refine div_exact hv h2 ?_
  rw [mul_split]
  generalize x.1 * (v / 4294967296) = A at *
  generalize x.1 * (v % 4294967296) = C at *
  omega
/-- the loop's end: the rest has grown too great -/
theorem divI_break (hv : 9223372036854775808 ≤ v) (hv2 : v < 18446744073709551616) (hu : u < v) (ht : t < 4294967296) {x : Nat × Nat} (h : DivI u v t x) (hc : 4294967296 ≤ x.1 ∨ 4294967296 * x.2 + t < x.1 * (v % 4294967296)) (hb : 4294967296 ≤ x.2 + v / 4294967296) :
    x.1 - 1 = (4294967296 * u + t) / v := by
  obtain ⟨g1, g2, g3⟩ := divI_more hv hv2 hu ht h hc
  have h3 := h.top
  refine div_exact hv g1 ?_
  rw [mul_split]
  have h5 : (x.1 - 1) * (v % 4294967296) ≤ 4294967297 * 4294967295 := Nat.mul_le_mul (by omega) (by omega)
  generalize (x.1 - 1) * (v / 4294967296) = A at *
  generalize (x.1 - 1) * (v % 4294967296) = C at *
  omega
theorem divI_test_t {x : Nat × Nat} (h : (4294967296 : Int) ≤ (x.1 : Int) ∨ ((4294967296 * x.2 + t : Nat) : Int) < ((x.1 * (v % 4294967296) % 18446744073709551616 : Nat) : Int)) : 4294967296 ≤ x.1 ∨ 4294967296 * x.2 + t < x.1 * (v % 4294967296) := by
  rcases h with h | h
  · left; omega
  · right
    have := Nat.mod_le (x.1 * (v % 4294967296)) 18446744073709551616
    generalize x.1 * (v % 4294967296) = C at *
    omega
theorem divI_test_f {x : Nat × Nat} (h : ¬ (4294967296 ≤ x.1) ∧ ¬ (4294967296 * x.2 + t < x.1 * (v % 4294967296) % 18446744073709551616)) : x.1 * (v % 4294967296) ≤ 4294967296 * x.2 + t := by
  have h1 : x.1 * (v % 4294967296) ≤ 4294967295 * 4294967295 := Nat.mul_le_mul (by omega) (by omega)
  have h2 := h.2
  rw [Nat.mod_eq_of_lt (by omega)] at h2
  omega
theorem divI_next (hv : 9223372036854775808 ≤ v) (hv2 : v < 18446744073709551616) (hu : u < v) (ht : t < 4294967296) {x : Nat × Nat} (h : DivI u v t x) (hc : 4294967296 ≤ x.1 ∨ 4294967296 * x.2 + t < x.1 * (v % 4294967296)) (hb : x.2 + v / 4294967296 < 4294967296) :
    DivI u v t (x.1 - 1, x.2 + v / 4294967296) := by
  obtain ⟨g1, g2, g3⟩ := divI_more hv hv2 hu ht h hc
  have := h.top
  exact ⟨g3, g1, by dsimp only; omega, hb⟩
end
theorem shl_split {lo s : Nat} (hs : s ≤ 64) (hlo : lo < 18446744073709551616) : lo * 2 ^ s = 18446744073709551616 * (lo / 2 ^ (64 - s)) + lo * 2 ^ s % 18446744073709551616 ∧ lo / 2 ^ (64 - s) < 2 ^ s := by
  have e : (18446744073709551616 : Nat) = 2 ^ (64 - s) * 2 ^ s := by rw [← Nat.pow_add, show 64 - s + s = 64 by omega]
  have hp : 0 < 2 ^ s := Nat.pow_pos (by decide)
  constructor
  · have h1 : lo * 2 ^ s / 18446744073709551616 = lo / 2 ^ (64 - s) := by rw [e, Nat.mul_div_mul_right _ _ hp]
    have h2 := Nat.div_add_mod (lo * 2 ^ s) 18446744073709551616
    rw [h1] at h2
    exact h2.symm
  · rw [Nat.div_lt_iff_lt_mul (Nat.pow_pos (by decide)), Nat.mul_comm, ← e]; exact hlo
/-- the two digits moved to the left -/
theorem div_shift {hi lo y s u v z : Nat} (hs : s ≤ 64) (hhi : hi < y) (hlo : lo < 18446744073709551616) (hv : v = y * 2 ^ s) (hu : u = hi * 2 ^ s + lo / 2 ^ (64 - s)) (hz : z = lo * 2 ^ s % 18446744073709551616) :
    u < v ∧ 18446744073709551616 * u + z = (18446744073709551616 * hi + lo) * 2 ^ s := by
  obtain ⟨h1, h2⟩ := shl_split hs hlo
  have h3 : (hi + 1) * 2 ^ s ≤ y * 2 ^ s := Nat.mul_le_mul_right _ hhi
  rw [Nat.add_mul, Nat.one_mul] at h3
  refine ⟨by omega, ?_⟩
  rw [Nat.add_mul, h1, ← hz, hu, Nat.mul_add, Nat.mul_assoc]
  omega
theorem div_final {N y s u v z Q1 r1 Q0 r0 : Nat} (hy : 0 < y) (hv : v = y * 2 ^ s) (hz : 18446744073709551616 * u + z = N * 2 ^ s) (h1 : Q1 * v + r1 = 4294967296 * u + z / 4294967296) (h0 : Q0 * v + r0 = 4294967296 * r1 + z % 4294967296) (hr : r0 < v) :
    N / y = 4294967296 * Q1 + Q0 ∧ N % y = r0 / 2 ^ s := by
  have hp : 0 < 2 ^ s := Nat.pow_pos (by decide)
  have e : N * 2 ^ s = v * (4294967296 * Q1 + Q0) + r0 := by
    have e1 : v * (4294967296 * Q1 + Q0) = 4294967296 * (Q1 * v) + Q0 * v := by grind
    rw [e1]
    generalize Q1 * v = A at *
    generalize Q0 * v = C at *
    omega
  have hq := (Nat.div_mod_unique (show 0 < v by omega) (a := N * 2 ^ s) (c := r0) (d := 4294967296 * Q1 + Q0)).2 ⟨by omega, hr⟩
  constructor
  · rw [← Nat.mul_div_mul_right N y hp, ← hv]; exact hq.1
  · have h5 := hq.2
    rw [hv, Nat.mul_mod_mul_right] at h5
    rw [← h5, Nat.mul_div_cancel _ hp]
theorem div_rest {X t Y r v : Nat} (h : Y + r = X + t) (hr : r < v) (hv : v < 18446744073709551616) : ((X % 18446744073709551616 + t) % 18446744073709551616 + 18446744073709551616 - Y % 18446744073709551616) % 18446744073709551616 = r := by omega
theorem tab_eq {k : Nat} (h : k < 256) : Value.int .u8 ((len8tab.getD k 0).toNat : Int) = Value.int .u8 (len64 k : Int) := by rw [len8tab_get k h]
end Go.J
