/-
  Plain facts: what a fraction in lowest terms is of its value alone; the laws of sums, products and order.
  Conditions: none.
-/
import Derived.Test.YteahhholjojfbaaDoorFracS
namespace Go.J
open Go

theorem low_unique {n d u v : Nat} (hd : 0 < d) (hv : 0 < v) (hc : Nat.gcd u v = 1) (h : u * d = n * v) : n / Nat.gcd n d = u ∧ d / Nat.gcd n d = v := by
  have h1 : v ∣ u * d := ⟨n, by rw [h, Nat.mul_comm]⟩
  have h2 : v ∣ d := (Nat.Coprime.dvd_of_dvd_mul_left (show Nat.Coprime v u by rw [Nat.coprime_comm]; exact hc) h1)
  obtain ⟨k, rfl⟩ := h2
  have hk : 0 < k := Nat.pos_of_mul_pos_left hd
  have h3 : n = u * k := by
    have : v * n = v * (u * k) := by rw [Nat.mul_comm v n, ← h]; grind
    exact Nat.eq_of_mul_eq_mul_left hv this
  subst h3
  rw [Nat.gcd_mul_right, hc, Nat.one_mul]
  exact ⟨Nat.mul_div_cancel _ hk, Nat.mul_div_cancel _ hk⟩
theorem natAbs_mul_nat (a : Int) (d : Nat) : (a * (d : Int)).natAbs = a.natAbs * d := by rw [Int.natAbs_mul, Int.natAbs_natCast]
/-- the value alone counts -/
theorem frNorm_congr {n n' : Int} {d d' : Nat} (hd : 0 < d) (hd' : 0 < d') (h : n * (d' : Int) = n' * (d : Int)) : frNorm n d = frNorm n' d' := by
  have h1 : n.natAbs * d' = n'.natAbs * d := by rw [← natAbs_mul_nat, ← natAbs_mul_nat, h]
  have hg : 0 < Nat.gcd n'.natAbs d' := Nat.gcd_pos_of_pos_right _ hd'
  have hc := Nat.coprime_div_gcd_div_gcd hg
  have e1 := Nat.div_mul_cancel (Nat.gcd_dvd_left n'.natAbs d')
  have e2 := Nat.div_mul_cancel (Nat.gcd_dvd_right n'.natAbs d')
  have hv : 0 < d' / Nat.gcd n'.natAbs d' := Nat.div_pos (Nat.gcd_le_right _ hd') hg
  have hs : decide (n < 0) = decide (n' < 0) := by
    rw [decide_eq_decide]
    have p1 : (0 : Int) < (d : Int) := by omega
    have p2 : (0 : Int) < (d' : Int) := by omega
    constructor
    · intro k
      have := Int.mul_neg_of_neg_of_pos k p2
      rw [h] at this
      apply Decidable.byContradiction
      intro k2
      have := Int.mul_nonneg (show 0 ≤ n' by omega) (show (0 : Int) ≤ d by omega)
      omega
    · intro k
      have := Int.mul_neg_of_neg_of_pos k p1
      rw [← h] at this
      apply Decidable.byContradiction
      intro k2
      have := Int.mul_nonneg (show 0 ≤ n by omega) (show (0 : Int) ≤ d' by omega)
      omega
  obtain ⟨k1, k2⟩ := low_unique (n := n.natAbs) hd hv hc (by
    generalize Nat.gcd n'.natAbs d' = g at *
    generalize n'.natAbs / g = u at *
    generalize d' / g = v at *
    have : g * (u * d) = g * (n.natAbs * v) := by
      have e3 : g * (u * d) = (u * g) * d := by grind
      have e4 : g * (n.natAbs * v) = n.natAbs * (v * g) := by grind
      rw [e3, e4, e1, e2, h1]
    exact Nat.eq_of_mul_eq_mul_left hg this)
  unfold frNorm frLow
  rw [k1, k2, hs]
theorem toNat_nat {a : Int} (h : 0 ≤ a) : ((a.toNat : Nat) : Int) = a := by omega
/-- a valid fraction is its own normal form -/
theorem frNorm_self {x : Pr} (hx : Fr1 x) : frNorm x.1 x.2.toNat = (x, (0, 0)) := by
  obtain ⟨h1, h2, h3, h4, h5⟩ := hx
  unfold frNorm frLow frOf
  rw [h5, Nat.div_one, Nat.div_one, if_neg (by omega)]
  obtain ⟨a, b⟩ := x
  dsimp only at *
  congr 2
  · by_cases h : a < 0
    · rw [decide_eq_true h]; simp only [if_true]; omega
    · rw [decide_eq_false h]; simp only [Bool.false_eq_true, if_false]; omega
  · omega
theorem frNorm_eq {n : Int} {d : Nat} {x : Pr} (hd : 0 < d) (hx : Fr1 x) (h : x.1 * (d : Int) = n * x.2) : frNorm n d = (x, (0, 0)) := by
  have h3 := hx.pos
  rw [← frNorm_self hx]
  exact frNorm_congr hd (by omega) (by rw [toNat_nat (by omega), h])
/-- what comes out of a normal form -/
theorem frOf_ok (neg : Bool) (n d : Nat) : (frOf neg n d).2.1 = 0 ∧ n ≤ 1152921504606846976 ∧ d ≤ 1152921504606846976 ∧ frOf neg n d = ((if neg then -(n : Int) else n, (d : Int)), (0, 0)) ∨ frOf neg n d = ((0, 0), (18, 0)) := by
  unfold frOf
  split
  · right; rfl
  · rename_i h
    left; exact ⟨rfl, by omega, by omega, rfl⟩
theorem frNorm_ok {n : Int} {d : Nat} (hd : 0 < d) : (Fr1 (frNorm n d).1 ∧ (frNorm n d).2 = (0, 0) ∧ (frNorm n d).1.1 * (d : Int) = n * (frNorm n d).1.2) ∨ frNorm n d = ((0, 0), (18, 0)) := by
  have hg : 0 < Nat.gcd n.natAbs d := Nat.gcd_pos_of_pos_right _ hd
  have hc := Nat.coprime_div_gcd_div_gcd hg
  have e1 := Nat.div_mul_cancel (Nat.gcd_dvd_left n.natAbs d)
  have e2 := Nat.div_mul_cancel (Nat.gcd_dvd_right n.natAbs d)
  have hv : 0 < d / Nat.gcd n.natAbs d := Nat.div_pos (Nat.gcd_le_right _ hd) hg
  unfold frNorm frLow
  generalize Nat.gcd n.natAbs d = g at *
  generalize n.natAbs / g = u at *
  generalize d / g = v at *
  rcases frOf_ok (decide (n < 0)) u v with ⟨_, h1, h2, h3⟩ | h3
  · left
    rw [h3]
    have hn : (if decide (n < 0) = true then -(u : Int) else u) * (g : Int) = n := by
      have : (u : Int) * (g : Int) = n.natAbs := by rw [← Int.natCast_mul, e1]
      by_cases k : n < 0
      · rw [if_pos (by simpa using k), Int.neg_mul, this]; omega
      · rw [if_neg (by simpa using k), this]; omega
    refine ⟨⟨?_, ?_, ?_, ?_, ?_⟩, rfl, ?_⟩
    · dsimp only; split <;> omega
    · dsimp only; split <;> omega
    · dsimp only; omega
    · dsimp only; omega
    · dsimp only
      rw [Int.toNat_natCast, show (if decide (n < 0) = true then -(u : Int) else u).natAbs = u by split <;> omega]
      exact hc
    · dsimp only
      generalize (if decide (n < 0) = true then -(u : Int) else u) = s at *
      rw [← e2, ← hn, Int.natCast_mul]
      grind
  · right; exact h3

section
variable {x y z : Pr}
theorem den_pos (hx : Fr1 x) (hy : Fr1 y) : 0 < (x.2 * y.2).toNat := by
  have h1 := hx.pos
  have h2 := hy.pos
  rw [toNat_mul (by omega) (by omega)]
  exact Nat.mul_pos (by omega) (by omega)
theorem den_nat (hx : Fr1 x) (hy : Fr1 y) : (((x.2 * y.2).toNat : Nat) : Int) = x.2 * y.2 := by
  have h1 := hx.pos
  have h2 := hy.pos
  exact toNat_nat (Int.mul_nonneg (by omega) (by omega))
theorem frAdd_ok (hx : Fr1 x) (hy : Fr1 y) : (Fr1 (frAdd x y).1 ∧ (frAdd x y).2 = (0, 0) ∧ (frAdd x y).1.1 * (x.2 * y.2) = (x.1 * y.2 + y.1 * x.2) * (frAdd x y).1.2) ∨ frAdd x y = ((0, 0), (18, 0)) := by
  have h := frNorm_ok (n := x.1 * y.2 + y.1 * x.2) (den_pos hx hy)
  rw [den_nat hx hy] at h
  exact h
theorem frMul_ok (hx : Fr1 x) (hy : Fr1 y) : (Fr1 (frMul x y).1 ∧ (frMul x y).2 = (0, 0) ∧ (frMul x y).1.1 * (x.2 * y.2) = (x.1 * y.1) * (frMul x y).1.2) ∨ frMul x y = ((0, 0), (18, 0)) := by
  have h := frNorm_ok (n := x.1 * y.1) (den_pos hx hy)
  rw [den_nat hx hy] at h
  exact h
theorem sub_add {s : Pr} (hx : Fr1 x) (hy : Fr1 y) (hs : Fr1 s) (h : s.1 * (x.2 * y.2) = (x.1 * y.2 + y.1 * x.2) * s.2) : frAdd s (frNeg y) = (x, (0, 0)) := by
  unfold frAdd
  have hy' := frNeg_ok hy
  refine frNorm_eq (den_pos hs hy') hx ?_
  rw [den_nat hs hy']
  unfold frNeg
  dsimp only
  grind
theorem div_mul {p : Pr} (hx : Fr1 x) (hy : Fr1 y) (hp : Fr1 p) (h0 : y.1 ≠ 0) (h : p.1 * (x.2 * y.2) = (x.1 * y.1) * p.2) : frMul p (frInv y) = (x, (0, 0)) := by
  unfold frMul
  have hy' := frInv_ok hy h0
  refine frNorm_eq (den_pos hp hy') hx ?_
  rw [den_nat hp hy']
  unfold frInv
  split
  · dsimp only; grind
  · dsimp only; grind
theorem mul_add {s a b : Pr} (hx : Fr1 x) (hy : Fr1 y) (hz : Fr1 z) (hs : Fr1 s) (ha : Fr1 a) (hb : Fr1 b) (es : s.1 * (y.2 * z.2) = (y.1 * z.2 + z.1 * y.2) * s.2)
    (ea : a.1 * (x.2 * y.2) = (x.1 * y.1) * a.2) (eb : b.1 * (x.2 * z.2) = (x.1 * z.1) * b.2) : frMul x s = frAdd a b := by
  unfold frMul frAdd
  refine frNorm_congr (den_pos hx hs) (den_pos ha hb) ?_
  rw [den_nat hx hs, den_nat ha hb]
  have x2 := hx.pos
  have y2 := hy.pos
  have z2 := hz.pos
  obtain ⟨x1, x2'⟩ := x
  obtain ⟨y1, y2'⟩ := y
  obtain ⟨z1, z2'⟩ := z
  obtain ⟨s1, s2⟩ := s
  obtain ⟨a1, a2⟩ := a
  obtain ⟨b1, b2⟩ := b
  dsimp only at *
  have k : x2' * y2' * z2' ≠ 0 := Int.mul_ne_zero (Int.mul_ne_zero (by omega) (by omega)) (by omega)
  apply Int.eq_of_mul_eq_mul_left k
  have l1 : x2' * y2' * z2' * (x1 * s1 * (a2 * b2)) = x2' * (x1 * (a2 * b2)) * (s1 * (y2' * z2')) := by grind
  have l2 : x2' * y2' * z2' * ((a1 * b2 + b1 * a2) * (x2' * s2)) = z2' * b2 * (x2' * s2) * (a1 * (x2' * y2')) + y2' * a2 * (x2' * s2) * (b1 * (x2' * z2')) := by grind
  rw [l1, l2, es, ea, eb]
  grind
/-- the order by the sign of a difference -/
theorem frCmp_congr {a b : Pr} {K L : Int} (hK : 0 < K) (hL : 0 < L) (h : K * (a.1 * b.2 - b.1 * a.2) = L * (x.1 * y.2 - y.1 * x.2)) : frCmp a b = frCmp x y := by
  unfold frCmp
  have e1 : a.1 * b.2 < b.1 * a.2 ↔ x.1 * y.2 < y.1 * x.2 := by
    generalize a.1 * b.2 = p at *
    generalize b.1 * a.2 = q at *
    generalize x.1 * y.2 = u at *
    generalize y.1 * x.2 = v at *
    constructor
    · intro k
      have := Int.mul_neg_of_pos_of_neg hK (show p - q < 0 by omega)
      rw [h] at this
      apply Decidable.byContradiction
      intro k2
      have := Int.mul_nonneg (show 0 ≤ L by omega) (show 0 ≤ u - v by omega)
      omega
    · intro k
      have := Int.mul_neg_of_pos_of_neg hL (show u - v < 0 by omega)
      rw [← h] at this
      apply Decidable.byContradiction
      intro k2
      have := Int.mul_nonneg (show 0 ≤ K by omega) (show 0 ≤ p - q by omega)
      omega
  have e2 : a.1 * b.2 = b.1 * a.2 ↔ x.1 * y.2 = y.1 * x.2 := by
    generalize a.1 * b.2 = p at *
    generalize b.1 * a.2 = q at *
    generalize x.1 * y.2 = u at *
    generalize y.1 * x.2 = v at *
    constructor
    · intro k
      rw [k, Int.sub_self, Int.mul_zero] at h
      have := Int.mul_eq_zero.1 h.symm
      omega
    · intro k
      rw [k, Int.sub_self, Int.mul_zero] at h
      have := Int.mul_eq_zero.1 h
      omega
  simp only [e1, e2]
theorem frCmp_swap : frCmp y x = -frCmp x y := by
  unfold frCmp
  generalize x.1 * y.2 = u
  generalize y.1 * x.2 = v
  by_cases h1 : u < v
  · rw [if_pos h1, if_neg (by omega), if_neg (by omega)]; rfl
  · by_cases h2 : u = v
    · rw [if_neg h1, if_pos h2, if_neg (by omega), if_pos h2.symm]; rfl
    · rw [if_neg h1, if_neg h2, if_pos (by omega)]
theorem cmp_add {a b : Pr} (hx : Fr1 x) (hy : Fr1 y) (hz : Fr1 z) (ha : Fr1 a) (hb : Fr1 b) (ea : a.1 * (x.2 * z.2) = (x.1 * z.2 + z.1 * x.2) * a.2) (eb : b.1 * (y.2 * z.2) = (y.1 * z.2 + z.1 * y.2) * b.2) : frCmp a b = frCmp x y := by
  have x2 := hx.pos
  have y2 := hy.pos
  have z2 := hz.pos
  have a2 := ha.pos
  have b2 := hb.pos
  refine frCmp_congr (K := x.2 * y.2 * z.2) (L := a.2 * b.2 * z.2) (Int.mul_pos (Int.mul_pos (by omega) (by omega)) (by omega)) (Int.mul_pos (Int.mul_pos (by omega) (by omega)) (by omega)) ?_
  obtain ⟨x1, x2'⟩ := x
  obtain ⟨y1, y2'⟩ := y
  obtain ⟨z1, z2'⟩ := z
  obtain ⟨a1, a2'⟩ := a
  obtain ⟨b1, b2'⟩ := b
  dsimp only at *
  have l1 : x2' * y2' * z2' * (a1 * b2' - b1 * a2') = y2' * b2' * (a1 * (x2' * z2')) - x2' * a2' * (b1 * (y2' * z2')) := by grind
  rw [l1, ea, eb]
  grind
theorem mul_diff {a b : Pr} (ea : a.1 * (x.2 * z.2) = (x.1 * z.1) * a.2) (eb : b.1 * (y.2 * z.2) = (y.1 * z.1) * b.2) : x.2 * y.2 * z.2 * (a.1 * b.2 - b.1 * a.2) = a.2 * b.2 * z.1 * (x.1 * y.2 - y.1 * x.2) := by
  obtain ⟨x1, x2'⟩ := x
  obtain ⟨y1, y2'⟩ := y
  obtain ⟨z1, z2'⟩ := z
  obtain ⟨a1, a2'⟩ := a
  obtain ⟨b1, b2'⟩ := b
  dsimp only at *
  have l1 : x2' * y2' * z2' * (a1 * b2' - b1 * a2') = y2' * b2' * (a1 * (x2' * z2')) - x2' * a2' * (b1 * (y2' * z2')) := by grind
  rw [l1, ea, eb]
  grind
theorem cmp_mul {a b : Pr} (hx : Fr1 x) (hy : Fr1 y) (hz : Fr1 z) (ha : Fr1 a) (hb : Fr1 b) (ea : a.1 * (x.2 * z.2) = (x.1 * z.1) * a.2) (eb : b.1 * (y.2 * z.2) = (y.1 * z.1) * b.2) :
    frCmp a b = if z.1 = 0 then 0 else if z.1 < 0 then -frCmp x y else frCmp x y := by
  have x2 := hx.pos
  have y2 := hy.pos
  have z2 := hz.pos
  have a2 := ha.pos
  have b2 := hb.pos
  have hd := mul_diff ea eb
  have hK : 0 < x.2 * y.2 * z.2 := Int.mul_pos (Int.mul_pos (by omega) (by omega)) (by omega)
  split
  · rename_i h0
    rw [h0, Int.mul_zero, Int.zero_mul] at hd
    have := (Int.mul_eq_zero.1 hd).resolve_left (by omega)
    unfold frCmp
    rw [if_neg (by omega), if_pos (by omega)]
  · split
    · rename_i h1
      rw [← frCmp_swap]
      refine frCmp_congr (K := x.2 * y.2 * z.2) (L := a.2 * b.2 * -z.1) hK (Int.mul_pos (Int.mul_pos (by omega) (by omega)) (by omega)) ?_
      rw [hd]
      grind
    · exact frCmp_congr (K := x.2 * y.2 * z.2) (L := a.2 * b.2 * z.1) hK (Int.mul_pos (Int.mul_pos (by omega) (by omega)) (by omega)) hd
/-- what an operation returns: a valid fraction, or nothing -/
theorem frDo_ok (k : Nat) (x y : Pr) : (Fr1 (frDo k x y).1 ∧ (frDo k x y).2 = (0, 0)) ∨ ((frDo k x y).1 = (0, 0) ∧ (frDo k x y).2.1 ≠ 0) := by
  unfold frDo
  split
  · rename_i hb
    obtain ⟨hx, hy⟩ := frBoth_iff.1 hb
    split
    · rcases frAdd_ok hx hy with h | h
      · exact .inl ⟨h.1, h.2.1⟩
      · rw [h]; exact .inr ⟨rfl, by simp⟩
    · rcases frAdd_ok hx (frNeg_ok hy) with h | h
      · exact .inl ⟨h.1, h.2.1⟩
      · rw [h]; exact .inr ⟨rfl, by simp⟩
    · rcases frMul_ok hx hy with h | h
      · exact .inl ⟨h.1, h.2.1⟩
      · rw [h]; exact .inr ⟨rfl, by simp⟩
    · split
      · exact .inr ⟨rfl, by simp⟩
      · rename_i h0
        rcases frMul_ok hx (frInv_ok hy h0) with h | h
        · exact .inl ⟨h.1, h.2.1⟩
        · rw [h]; exact .inr ⟨rfl, by simp⟩
  · rename_i hb
    exact .inr ⟨rfl, hb⟩
end
end Go.J
