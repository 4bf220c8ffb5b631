/-
  Fractions as texts, for the walks: the reader's steps one by one, the digits of a number one by one, how the library's reader ends.
  Conditions: none.
-/
import Derived.Test.YteahhholjojfbaaDoorFracT
import Derived.Test.YteahhholjojfbaaDoorJ20
namespace Go.J
open Go Go.Lib
theorem se {a b : Str} (h : a = b) : ret1 [sv a] = sv b := by rw [h]; rfl
theorem cut_len (s t : Str) : (cut s t).1.length ≤ s.length ∧ (cut s t).2.1.length ≤ s.length := by
  unfold cut
  split
  · simp only [List.length_take, List.length_drop]; omega
  · simp
theorem atoi_i64 {s : Str} {n : Int} (h : atoiAll s = .ok n) : i64ok n := by
  unfold i64ok
  cases s with
  | nil => cases h
  | cons c r =>
    unfold atoiAll at h
    simp only at h
    split at h
    · cases h
    · cases h
    · split at h
      · cases h
      · split at h
        · cases h
        · rename_i h1 h2
          cases h
          split <;> omega
def AtoiR (s : Str) (n : Int) (er : Value) : Prop := ErrV er ∧ ((isErr er = false ∧ atoiAll s = .ok n) ∨ (isErr er = true ∧ ∀ k, atoiAll s ≠ .ok k))
theorem AtoiR.ok {s : Str} {n : Int} {er : Value} (h : AtoiR s n er) (k : isErr er = false) : atoiAll s = .ok n := by
  rcases h.2 with h | h
  · exact h.2
  · rw [k] at h; cases h.1
theorem AtoiR.bad {s : Str} {n : Int} {er : Value} (h : AtoiR s n er) (k : isErr er = true) : ∀ j, atoiAll s ≠ .ok j := by
  rcases h.2 with h | h
  · rw [k] at h; cases h.1
  · exact h.2
theorem itoa_len64 {n : Int} (h : i64ok n) : (itoa n).length ≤ 20 := by
  obtain ⟨h1, h2⟩ := h
  have key : ∀ u : Nat, u ≤ 9223372036854775808 → (decDigits u).length ≤ 19 := by
    intro u hu
    rw [decDigits_length]
    rcases Nat.lt_or_ge (nDigits u) 20 with q | q
    · omega
    · exfalso
      have : ∀ k v : Nat, k + 1 ≤ nDigits v → 10 ^ k ≤ v ∨ k = 0 := by
        intro k
        induction k with
        | zero => intro v _; exact .inr rfl
        | succ k ih =>
          intro v hv
          left
          by_cases hv10 : v < 10
          · rw [nDigits_small hv10] at hv; omega
          · rw [nDigits_big hv10] at hv
            rcases ih (v / 10) (by omega) with t | t
            · rw [Nat.pow_succ]; omega
            · subst t; simp; omega
      rcases this 19 u q with t | t
      · have : (10 : Nat) ^ 19 = 10000000000000000000 := by decide
        omega
      · cases t
  unfold itoa
  split
  · rw [List.length_cons]; have := key n.natAbs (by omega); omega
  · have := key n.toNat (by omega); omega
theorem itoa_abs {n : Int} : (decDigits n.natAbs).length ≤ (itoa n).length := by
  unfold itoa
  split
  · rw [List.length_cons]; omega
  · rw [show n.toNat = n.natAbs by omega]; exact Nat.le_refl _
/-- the digits that are not written yet -/
def dg (m : Nat) : Str := if m = 0 then [] else decDigits m
theorem dg_step {m : Nat} (h : 0 < m) : dg m = dg (m / 10) ++ [UInt8.ofNat (48 + m % 10)] := by
  unfold dg
  rw [if_neg (by omega)]
  by_cases k : m < 10
  · rw [if_pos (by omega), decDigits_one k, show m % 10 = m by omega]; rfl
  · rw [if_neg (by omega), dec_big k]
theorem dg_next {m : Nat} {D E : Str} (h : 0 < m) (k : dg m ++ D = E) : dg (m / 10) ++ (UInt8.ofNat (48 + m % 10) :: D) = E := by
  rw [dg_step h] at k; rw [← k]; simp
theorem dg_len {m : Nat} {D E : Str} (k : dg m ++ D = E) : D.length ≤ E.length := by rw [← k, List.length_append]; omega
theorem dg_end {m : Nat} {D E : Str} (k : dg m ++ D = E) (h : m = 0) : D = E := by subst h; exact k
theorem itoa_neg {n : Int} {D : Str} (h : n < 0) (k : D = decDigits n.natAbs) : 45 :: D = itoa n := by unfold itoa; rw [if_pos h, k]
theorem itoa_pos {n : Int} {D : Str} (h : ¬ n < 0) (k : D = decDigits n.natAbs) : D = itoa n := by unfold itoa; rw [if_neg h, k, show n.toNat = n.natAbs by omega]
/-- the reference's text -/
def refText (x : Pr) : Str := if x.2 = 1 then itoa x.1 else itoa x.1 ++ 47 :: itoa x.2
theorem refText_eq {x : Pr} (h : Fr1 x) : refText x = frText x := by
  have := h.pos
  unfold refText frText
  by_cases k : x.2 = 1
  · rw [if_pos k, if_neg (by omega)]
  · rw [if_neg k, if_pos (by omega)]
/-- what is returned -/
def prP : Option Pr → Pr × Pr
  | some x => (x, (0, 0))
  | none => ((0, 0), (11, 0))
theorem rd_long {s : Str} (h : 50 < s.length) : progRead s = none := by unfold progRead; rw [if_pos h]
theorem rd_bad1 {s : Str} (h : ¬ 50 < s.length) (k : ∀ j, atoiAll (cut s [47]).1 ≠ .ok j) : progRead s = none := by
  unfold progRead
  rw [if_neg h]
  split
  · rename_i j hj; exact absurd hj (k j)
  · rfl
theorem rd_bad2 {s : Str} {n : Int} (h : ¬ 50 < s.length) (k : atoiAll (cut s [47]).1 = .ok n) (h2 : (cut s [47]).2.2 = true) (k2 : ∀ j, atoiAll (cut s [47]).2.1 ≠ .ok j) : progRead s = none := by
  unfold progRead
  rw [if_neg h, k]
  show (if (cut s [47]).2.2 = true then _ else _) = _
  rw [if_pos h2]
  split
  · rename_i j hj; exact absurd hj (k2 j)
  · rfl
theorem rd_two {s : Str} {n d : Int} (h : ¬ 50 < s.length) (k : atoiAll (cut s [47]).1 = .ok n) (h2 : (cut s [47]).2.2 = true) (k2 : atoiAll (cut s [47]).2.1 = .ok d) : progRead s = frChk s (n, d) := by
  unfold progRead
  rw [if_neg h, k]
  simp only [h2, if_true, k2]
theorem rd_one {s : Str} {n : Int} (h : ¬ 50 < s.length) (k : atoiAll (cut s [47]).1 = .ok n) (h2 : (cut s [47]).2.2 = false) : progRead s = frChk s (n, 1) := by
  unfold progRead
  rw [if_neg h, k]
  simp only [h2, Bool.false_eq_true, if_false]
theorem frChk_t {s : Str} {n d : Int} (h : (frBad n d (-1)).1 = 0 ∧ frText (n, d) = s) : frChk s (n, d) = some (n, d) := by unfold frChk; exact if_pos h
theorem frChk_f {s : Str} {n d : Int} (h : ¬ ((frBad n d (-1)).1 = 0 ∧ frText (n, d) = s)) : frChk s (n, d) = none := by unfold frChk; exact if_neg h
theorem print_bad {x : Pr} : (frBad x.1 x.2 (-1)).1 = 0 ↔ Fr1 x := frBad_iff
def pN (st : RS) : Nat := if st.part then 1 else 0
theorem pN_lt (st : RS) : pN st < 2 := by unfold pN; split <;> omega
theorem pN_0 {st : RS} : (pN st : Int) = 0 ↔ st.part = false := by unfold pN; cases st.part <;> simp
theorem pN_1 {st : RS} : (pN st : Int) = 1 ↔ st.part = true := by unfold pN; cases st.part <;> simp
theorem pN_add (st : RS) (d : Nat) : pN st = pN (addD st d) := by unfold pN addD; cases h : st.part <;> simp [h]
theorem neg_add (st : RS) (d : Nat) : st.neg = (addD st d).neg := by unfold addD; cases h : st.part <;> simp
theorem at_l (st : RS) : [iv st.l0, iv st.l1][pN st]? = some (iv (curL st)) := by unfold pN curL; cases st.part <;> rfl
theorem at_m (st : RS) : [iv st.m0, iv st.m1][pN st]? = some (iv (curM st)) := by unfold pN curM; cases st.part <;> rfl
theorem set_l (st : RS) (d : Nat) : [iv st.l0, iv st.l1].set (pN st) (iv ((curL st * 10 + d : Nat) : Int)) = [iv (addD st d).l0, iv (addD st d).l1] := by unfold pN curL addD; cases st.part <;> rfl
theorem at_l2 (st : RS) (d : Nat) : [iv (addD st d).l0, iv (addD st d).l1][pN st]? = some (iv ((curL st * 10 + d : Nat) : Int)) := by unfold pN curL addD; cases st.part <;> rfl
theorem set_m (st : RS) (d : Nat) : [iv st.m0, iv st.m1].set (pN st) (iv ((curM st : Int) + 1)) = [iv (addD st d).m0, iv (addD st d).m1] := by unfold pN curM addD; cases st.part <;> rfl
/-- bounds on the way -/
structure RI (st : RS) (i : Nat) : Prop where
  l0 : st.l0 ≤ 1152921504606846976
  l1 : st.l1 ≤ 1152921504606846976
  m0 : st.m0 ≤ i
  m1 : st.m1 ≤ i
theorem RI.zero : RI rs0 0 := ⟨by decide, by decide, Nat.le_refl _, Nat.le_refl _⟩
theorem RI.cur {st : RS} {i : Nat} (h : RI st i) : curL st ≤ 1152921504606846976 ∧ curM st ≤ i := by
  obtain ⟨h1, h2, h3, h4⟩ := h
  unfold curL curM; cases st.part <;> simp <;> omega
theorem RI.up {st : RS} {i : Nat} (h : RI st i) : RI st (i + 1) := ⟨h.l0, h.l1, Nat.le_succ_of_le h.m0, Nat.le_succ_of_le h.m1⟩
theorem RI.neg {st : RS} {i : Nat} (h : RI st i) : RI { st with neg := true } (i + 1) := ⟨h.l0, h.l1, Nat.le_succ_of_le h.m0, Nat.le_succ_of_le h.m1⟩
theorem RI.part {st : RS} {i : Nat} (h : RI st i) : RI { st with part := true } (i + 1) := ⟨h.l0, h.l1, Nat.le_succ_of_le h.m0, Nat.le_succ_of_le h.m1⟩
theorem RI.add {st : RS} {i d : Nat} (h : RI st i) (k : curL st * 10 + d ≤ 1152921504606846976) : RI (addD st d) (i + 1) := by
  obtain ⟨h1, h2, h3, h4⟩ := h
  unfold addD curL at *
  cases hp : st.part <;> simp only [hp, if_true, if_false, Bool.false_eq_true] at k ⊢ <;> refine ⟨?_, ?_, ?_, ?_⟩ <;> simp only <;> omega
theorem drop_at {s : Str} {i : Nat} {c : UInt8} (h : s[i]? = some c) : s.drop i = c :: s.drop (i + 1) := by
  obtain ⟨hl, rfl⟩ := List.getElem?_eq_some_iff.1 h
  exact List.drop_eq_getElem_cons hl
theorem rr_next {s : Str} {i : Nat} {st st' : RS} {c : UInt8} (h : runR 0 rs0 s = runR i st (s.drop i)) (hc : s[i]? = some c) (k : stepR (decide (i = 0)) st c = some st') : runR 0 rs0 s = runR (i + 1) st' (s.drop (i + 1)) := by
  rw [h, drop_at hc, runR, k]
theorem rr_none {s : Str} {i : Nat} {st : RS} {c : UInt8} (h : runR 0 rs0 s = runR i st (s.drop i)) (hc : s[i]? = some c) (k : stepR (decide (i = 0)) st c = none) : refRead s = none := by
  unfold refRead
  rw [h, drop_at hc, runR, k]
theorem rr_end {s : Str} {i : Nat} {st : RS} (h : runR 0 rs0 s = runR i st (s.drop i)) (hi : s.length ≤ i) : refRead s = finR st := by
  unfold refRead
  rw [h, List.drop_eq_nil_of_le hi, runR]
theorem st_neg {st : RS} {i : Nat} {c : UInt8} (h : (c.toNat : Int) = 45 ∧ (i : Int) = 0) : stepR (decide (i = 0)) st c = some { st with neg := true } := by
  unfold stepR
  rw [if_pos ⟨by omega, decide_eq_true (by omega)⟩]
theorem no_neg {i : Nat} {c : UInt8} (h : ¬ ((c.toNat : Int) = 45 ∧ (i : Int) = 0)) : ¬ (c.toNat = 45 ∧ decide (i = 0) = true) := by
  rintro ⟨h1, h2⟩
  have := of_decide_eq_true h2
  exact h ⟨by omega, by omega⟩
theorem st_part {st : RS} {i : Nat} {c : UInt8} (h0 : ¬ ((c.toNat : Int) = 45 ∧ (i : Int) = 0)) (h : ((c.toNat : Int) = 47 ∧ (pN st : Int) = 0) ∧ (0 : Int) < st.m0) : stepR (decide (i = 0)) st c = some { st with part := true } := by
  unfold stepR
  rw [if_neg (no_neg h0), if_pos ⟨by omega, pN_0.1 h.1.2, by omega⟩]
theorem no_part {st : RS} {c : UInt8} (h : ¬ (((c.toNat : Int) = 47 ∧ (pN st : Int) = 0) ∧ (0 : Int) < st.m0)) : ¬ (c.toNat = 47 ∧ st.part = false ∧ 0 < st.m0) := by
  rintro ⟨h1, h2, h3⟩
  exact h ⟨⟨by omega, pN_0.2 h2⟩, by omega⟩
theorem st_bad {st : RS} {i : Nat} {c : UInt8} (h0 : ¬ ((c.toNat : Int) = 45 ∧ (i : Int) = 0)) (h1 : ¬ (((c.toNat : Int) = 47 ∧ (pN st : Int) = 0) ∧ (0 : Int) < st.m0)) (h2 : ¬ ((48 : Int) ≤ c.toNat ∧ (c.toNat : Int) ≤ 57)) : stepR (decide (i = 0)) st c = none := by
  unfold stepR
  rw [if_neg (no_neg h0), if_neg (no_part h1), if_neg (by omega)]
theorem st_bad1 {st : RS} {i : Nat} {c : UInt8} (h0 : ¬ ((c.toNat : Int) = 45 ∧ (i : Int) = 0)) (h1 : ¬ (((c.toNat : Int) = 47 ∧ (pN st : Int) = 0) ∧ (0 : Int) < st.m0)) (h2 : (48 : Int) ≤ c.toNat ∧ (c.toNat : Int) ≤ 57)
    (h3 : ((0 : Int) < curM st ∧ (curL st : Int) = 0) ∨ (115292150460684697 : Int) < curL st) : stepR (decide (i = 0)) st c = none := by
  unfold stepR
  rw [if_neg (no_neg h0), if_neg (no_part h1), if_pos (by omega), if_pos (by omega)]
theorem st_bad2 {st : RS} {i : Nat} {c : UInt8} (h0 : ¬ ((c.toNat : Int) = 45 ∧ (i : Int) = 0)) (h1 : ¬ (((c.toNat : Int) = 47 ∧ (pN st : Int) = 0) ∧ (0 : Int) < st.m0)) (h2 : (48 : Int) ≤ c.toNat ∧ (c.toNat : Int) ≤ 57)
    (h3 : ¬ (((0 : Int) < curM st ∧ (curL st : Int) = 0) ∨ (115292150460684697 : Int) < curL st)) (h4 : 1152921504606846976 < curL st * 10 + (c.toNat - 48)) : stepR (decide (i = 0)) st c = none := by
  unfold stepR
  rw [if_neg (no_neg h0), if_neg (no_part h1), if_pos (by omega), if_neg (by omega), if_pos h4]
theorem st_add {st : RS} {i : Nat} {c : UInt8} (h0 : ¬ ((c.toNat : Int) = 45 ∧ (i : Int) = 0)) (h1 : ¬ (((c.toNat : Int) = 47 ∧ (pN st : Int) = 0) ∧ (0 : Int) < st.m0)) (h2 : (48 : Int) ≤ c.toNat ∧ (c.toNat : Int) ≤ 57)
    (h3 : ¬ (((0 : Int) < curM st ∧ (curL st : Int) = 0) ∨ (115292150460684697 : Int) < curL st)) (h4 : ¬ 1152921504606846976 < curL st * 10 + (c.toNat - 48)) : stepR (decide (i = 0)) st c = some (addD st (c.toNat - 48)) := by
  unfold stepR
  rw [if_neg (no_neg h0), if_neg (no_part h1), if_pos (by omega), if_neg (by omega), if_neg h4]
theorem fin_bad {st : RS} (h : ((st.m0 : Int) = 0 ∨ (pN st : Int) = 1 ∧ ((st.m1 : Int) = 0 ∨ (st.l1 : Int) < 2)) ∨ (st.neg = true ∧ (st.l0 : Int) = 0)) : finR st = none := by
  unfold finR
  rw [if_pos]
  rcases h with (h | ⟨h, k⟩) | h
  · exact .inl (by omega)
  · exact .inr (.inl ⟨pN_1.1 h, by omega⟩)
  · exact .inr (.inr ⟨h.1, by omega⟩)
theorem fin_if {st : RS} (h : (¬ (st.m0 : Int) = 0 ∧ (¬ (pN st : Int) = 1 ∨ ¬ (st.m1 : Int) = 0 ∧ (2 : Int) ≤ st.l1)) ∧ (st.neg = false ∨ ¬ (st.l0 : Int) = 0)) : finR st = if (frBad (finX st).1 (finX st).2 (-1)).1 = 0 then some (finX st) else none := by
  unfold finR
  rw [if_neg]
  rintro (k | ⟨k1, k2⟩ | k)
  · exact h.1.1 (by omega)
  · rcases h.1.2 with q | q
    · exact q (pN_1.2 k1)
    · omega
  · rcases h.2 with q | q
    · rw [q] at k; cases k.1
    · exact q (by omega)
theorem fin_x {st : RS} {i : Nat} (h : RI st i) : i64ok (finX st).1 ∧ i64ok (finX st).2 := by
  obtain ⟨h1, h2, _, _⟩ := h
  unfold finX i64ok
  cases st.neg <;> cases st.part <;> simp <;> omega
theorem fin_11 {st : RS} (h : st.neg = true) (k : (pN st : Int) = 1) : [iv (-(st.l0 : Int)), iv (st.l1 : Int)] = [iv (finX st).1, iv (finX st).2] := by unfold finX; rw [h, pN_1.1 k]; rfl
theorem pN_n1 {st : RS} (k : ¬ (pN st : Int) = 1) : st.part = false := by cases h : st.part; rfl; exact absurd (pN_1.2 h) k
theorem fin_10 {st : RS} (h : st.neg = true) (k : ¬ (pN st : Int) = 1) : [iv (-(st.l0 : Int)), iv 1] = [iv (finX st).1, iv (finX st).2] := by unfold finX; rw [h, pN_n1 k]; rfl
theorem fin_01 {st : RS} (h : st.neg = false) (k : (pN st : Int) = 1) : [iv (st.l0 : Int), iv (st.l1 : Int)] = [iv (finX st).1, iv (finX st).2] := by unfold finX; rw [h, pN_1.1 k]; rfl
theorem fin_00 {st : RS} (h : st.neg = false) (k : ¬ (pN st : Int) = 1) : [iv (st.l0 : Int), iv 1] = [iv (finX st).1, iv (finX st).2] := by unfold finX; rw [h, pN_n1 k]; rfl
end Go.J
