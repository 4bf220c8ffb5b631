/-
  Whether a row of kinds respects a rule: the reference goes pair by pair, the code by kinds of rules; both give the same.
  Conditions: where said, the kind of the rule is one of the four.
-/
import Derived.Test.YtblnbjlcpleaaaaOrdP
namespace Go.J
open Go
set_option linter.unusedSimpArgs false

section
variable (p : Prec) (row : List Str)
def kp1 (i k : Nat) : Bool := ((decide (p.kind = 1) && (row.getD i [] == p.a)) && (row.getD k [] == p.b)) && decide ((k : Int) < i)
def kp3 (i k : Nat) : Bool := ((decide (p.kind = 3) && (row.getD i [] == p.a)) && !(row.getD k [] == p.a)) && decide ((k : Int) < i)
def kp4 (i k : Nat) : Bool := ((decide (p.kind = 4) && (row.getD i [] == p.a)) && !(row.getD k [] == p.a)) && decide ((i : Int) < k)
def kp2 (i : Nat) : Bool := (decide (p.kind = 2) && (row.getD i [] == p.a)) && (decide ((i : Int) = (row.length : Int) - 1) || !(row.getD (i + 1) [] == p.b))
def okPair (i k : Nat) : Bool := decide ((i : Int) = k) || (!kp1 p row i k && (!kp3 p row i k && !kp4 p row i k))
def okAt (i : Nat) : Bool := (List.range row.length).all (okPair p row i) && !kp2 p row i
/-- the row respects the rule -/
def keeps : Bool := (List.range row.length).all (okAt p row)

/-- the last place below k that holds the kind, or -1 -/
def lastTo (a : Str) : Nat → Int
  | 0 => -1
  | k + 1 => if row.getD k [] == a then (k : Int) else lastTo a k
/-- from the front, or from the back -/
def rowAt (i : Nat) : Str := if p.kind = 4 then row.getD (row.length - 1 - i) [] else row.getD i []
def seenTo (k : Nat) : Bool := (List.range k).any fun j => !(rowAt p row j == p.a)
def noneTo (k : Nat) : Bool := (List.range k).all fun i => !((rowAt p row i == p.a) && seenTo p row i)
end

variable {p : Prec} {row : List Str}
theorem lastTo_t {a : Str} {k : Nat} (h : row.getD k [] = a) : lastTo row a (k + 1) = k := by simp only [lastTo, h, beq_self_eq_true, if_true]
theorem lastTo_f {a : Str} {k : Nat} (h : ¬ row.getD k [] = a) : lastTo row a (k + 1) = lastTo row a k := by simp only [lastTo, beq_iff_eq, h, if_false]
theorem lastTo_spec (a : Str) : ∀ k, (lastTo row a k = -1 ∧ ∀ i, i < k → ¬ row.getD i [] = a) ∨ ∃ j, j < k ∧ lastTo row a k = j ∧ row.getD j [] = a ∧ ∀ i, j < i → i < k → ¬ row.getD i [] = a
  | 0 => .inl ⟨rfl, fun i hi => by omega⟩
  | k + 1 => by
    by_cases h : row.getD k [] = a
    · exact .inr ⟨k, by omega, lastTo_t h, h, fun i h1 h2 => by omega⟩
    · rw [lastTo_f h]
      rcases lastTo_spec a k with ⟨h1, h2⟩ | ⟨j, h1, h2, h3, h4⟩
      · exact .inl ⟨h1, fun i hi => by
          rcases Nat.lt_or_ge i k with h5 | h5
          · exact h2 i h5
          · rwa [show i = k by omega]⟩
      · exact .inr ⟨j, by omega, h2, h3, fun i h5 h6 => by
          rcases Nat.lt_or_ge i k with h7 | h7
          · exact h4 i h5 h7
          · rwa [show i = k by omega]⟩

theorem seenTo_iff {k : Nat} : seenTo p row k = true ↔ ∃ j, j < k ∧ ¬ rowAt p row j = p.a := by
  simp only [seenTo, List.any_eq_true, List.mem_range, Bool.not_eq_true', beq_eq_false_iff_ne, ne_eq]
theorem seenTo_t {k : Nat} (h : ¬ rowAt p row k = p.a) : seenTo p row (k + 1) = true := seenTo_iff.2 ⟨k, by omega, h⟩
theorem seenTo_f {k : Nat} (h : rowAt p row k = p.a) : seenTo p row (k + 1) = seenTo p row k := by
  rw [Bool.eq_iff_iff, seenTo_iff, seenTo_iff]
  constructor
  · rintro ⟨j, h1, h2⟩
    refine ⟨j, ?_, h2⟩
    rcases Nat.lt_or_ge j k with h3 | h3
    · exact h3
    · exact absurd (by rw [show j = k by omega]; exact h) h2
  · rintro ⟨j, h1, h2⟩; exact ⟨j, by omega, h2⟩
theorem noneTo_succ {k : Nat} (h : noneTo p row k = true) (hk : ¬ rowAt p row k = p.a ∨ seenTo p row k = false) : noneTo p row (k + 1) = true := by
  refine all_range_succ h ?_
  rcases hk with hk | hk
  · simp [-List.getD_eq_getElem?_getD, hk]
  · simp [-List.getD_eq_getElem?_getD, hk]

theorem keeps_iff : keeps p row = true ↔ ∀ i, i < row.length → (∀ k, k < row.length → okPair p row i k = true) ∧ kp2 p row i = false := by
  simp only [keeps, all_range_iff, okAt, Bool.and_eq_true, Bool.not_eq_true']
theorem keeps_false {i : Nat} (hi : i < row.length) (h : okAt p row i = false) : keeps p row = false := all_range_false hi h
theorem okAt_false1 {i k : Nat} (hk : k < row.length) (h : okPair p row i k = false) : okAt p row i = false := by
  simp only [okAt, all_range_false hk h, Bool.false_and]
theorem okAt_false2 {i : Nat} (h : kp2 p row i = true) : okAt p row i = false := by simp only [okAt, h, Bool.not_true, Bool.and_false]

theorem okPair_same {i k : Nat} (h : (i : Int) = k) : okPair p row i k = true := by simp only [okPair, h, decide_true, Bool.true_or]
theorem okPair_ok {i k : Nat} (h1 : kp1 p row i k = false) (h3 : kp3 p row i k = false) (h4 : kp4 p row i k = false) : okPair p row i k = true := by simp only [okPair, h1, h3, h4, Bool.not_false, Bool.and_true, Bool.or_true]
theorem okPair_bad {i k : Nat} (hne : ¬ (i : Int) = k) (h : kp1 p row i k = true ∨ kp3 p row i k = true ∨ kp4 p row i k = true) : okPair p row i k = false := by
  rcases h with h | h | h <;> simp [-List.getD_eq_getElem?_getD, okPair, hne, h]
theorem okAt_ok {i k : Nat} (hk : row.length ≤ k) (hk2 : k ≤ row.length) (h : (List.range k).all (okPair p row i) = true) (h2 : kp2 p row i = false) : okAt p row i = true := by
  have e : k = row.length := by omega
  subst e
  simp only [okAt, h, h2, Bool.not_false, Bool.and_true]

theorem keeps1 (hp : p.kind = 1) : keeps p row = true ↔ ∀ i k, i < row.length → k < i → row.getD i [] = p.a → row.getD k [] = p.b → False := by
  rw [keeps_iff]
  simp only [okPair, kp1, kp2, kp3, kp4, hp]
  constructor
  · intro h i k hi hk h1 h2
    have h3 := (h i hi).1 k (by omega)
    simp [-List.getD_eq_getElem?_getD, h1, h2] at h3
    omega
  · intro h i hi
    refine ⟨fun k hk => ?_, by simp⟩
    by_cases hik : (k : Int) < i
    · have h4 := h i k hi (by omega)
      simp only [Bool.or_eq_true, decide_eq_true_eq]
      right
      by_cases h5 : row.getD i [] = p.a
      · by_cases h6 : row.getD k [] = p.b
        · exact (h4 h5 h6).elim
        · simp [-List.getD_eq_getElem?_getD, h6]
      · simp [-List.getD_eq_getElem?_getD, h5]
    · simp [-List.getD_eq_getElem?_getD, hik]

theorem resp1 (hp : p.kind = 1) (h : ¬ p.a = p.b) : (decide (ix (fun y => p.b == y) row < 0) || decide (lastTo row p.a row.length < ix (fun y => p.b == y) row)) = keeps p row := by
  rw [Bool.eq_iff_iff, keeps1 hp]
  simp only [Bool.or_eq_true, decide_eq_true_eq]
  have hg : ∀ {i : Nat} {y : Str}, row[i]? = some y → row.getD i [] = y := fun h => getD_of_some h
  rcases ix_cases (fun y => p.b == y) row with ⟨h1, h2⟩ | ⟨k, x, h1, h2, h3, h4⟩
  · rw [h1]
    constructor
    · intro _ i k hi hk ha hb
      have h3 := h2 row[k] (List.getElem_mem (by omega))
      have h5 := hg (List.getElem?_eq_getElem (show k < row.length by omega))
      rw [hb] at h5
      simp [-List.getD_eq_getElem?_getD, h5] at h3
    · intro _; left; decide
  · rw [h3]
    have hb : row.getD k [] = p.b := by rw [hg h1]; symm; simpa using h2
    have hkl := lt_of_some h1
    rcases lastTo_spec (row := row) p.a row.length with ⟨h5, h6⟩ | ⟨j, h5, h6, h7, h8⟩
    · rw [h5]
      constructor
      · intro _ i k' hi _ ha _; exact h6 i hi ha
      · intro _; right; omega
    · rw [h6]
      constructor
      · intro hh i k' hi hk' ha hb'
        have h9 : k ≤ k' := by
          rcases Nat.lt_or_ge k' k with h10 | h10
          · have := h4 k' row[k'] h10 (List.getElem?_eq_getElem (by omega))
            have h11 := hg (List.getElem?_eq_getElem (show k' < row.length by omega))
            rw [hb'] at h11
            simp [-List.getD_eq_getElem?_getD, ← h11] at this
          · exact h10
        have h10 : i ≤ j := by
          rcases Nat.lt_or_ge j i with h11 | h11
          · exact absurd ha (h8 i h11 hi)
          · exact h11
        omega
      · intro hh
        right
        rcases Nat.lt_trichotomy j k with h9 | h9 | h9
        · omega
        · subst h9; exact absurd (h7.symm.trans hb) h
        · exact (hh j k h5 h9 h7 hb).elim

theorem resp1' (hp : p.kind = 1) (h : p.a = p.b) : decide (ix (fun y => p.b == y) row = lastTo row p.a row.length) = keeps p row := by
  rw [Bool.eq_iff_iff, keeps1 hp]
  simp only [decide_eq_true_eq]
  have hg : ∀ {i : Nat} {y : Str}, row[i]? = some y → row.getD i [] = y := fun h => getD_of_some h
  rcases ix_cases (fun y => p.b == y) row with ⟨h1, h2⟩ | ⟨k, x, h1, h2, h3, h4⟩
  · rw [h1]
    have hno : ∀ i, i < row.length → ¬ row.getD i [] = p.b := fun i hi hb => by
      have h3 := h2 row[i] (List.getElem_mem hi)
      have h5 := hg (List.getElem?_eq_getElem hi)
      rw [hb] at h5
      simp [-List.getD_eq_getElem?_getD, h5] at h3
    constructor
    · intro _ i k hi hk _ hb; exact hno k (by omega) hb
    · intro _
      rcases lastTo_spec (row := row) p.a row.length with ⟨h5, h6⟩ | ⟨j, h5, h6, h7, h8⟩
      · rw [h5]
      · exact absurd (h7.trans h) (hno j h5)
  · rw [h3]
    have hb : row.getD k [] = p.b := by rw [hg h1]; symm; simpa using h2
    have hkl := lt_of_some h1
    rcases lastTo_spec (row := row) p.a row.length with ⟨h5, h6⟩ | ⟨j, h5, h6, h7, h8⟩
    · exact absurd (hb.trans h.symm) (h6 k hkl)
    · rw [h6]
      constructor
      · intro hh i k' hi hk' ha hb'
        have h9 : k ≤ k' := by
          rcases Nat.lt_or_ge k' k with h10 | h10
          · have := h4 k' row[k'] h10 (List.getElem?_eq_getElem (by omega))
            have h11 := hg (List.getElem?_eq_getElem (show k' < row.length by omega))
            rw [hb'] at h11
            simp [-List.getD_eq_getElem?_getD, ← h11] at this
          · exact h10
        have h10 : i ≤ j := by
          rcases Nat.lt_or_ge j i with h11 | h11
          · exact absurd ha (h8 i h11 hi)
          · exact h11
        omega
      · intro hh
        rcases Nat.lt_trichotomy j k with h9 | h9 | h9
        · exact absurd (hb.trans h.symm) (h8 k h9 hkl)
        · omega
        · exact (hh j k h5 h9 h7 hb).elim

theorem keeps2 (hp : p.kind = 2) : keeps p row = (List.range row.length).all fun i => !kp2 p row i := by
  rw [Bool.eq_iff_iff, keeps_iff, all_range_iff]
  constructor
  · intro h i hi; simp [-List.getD_eq_getElem?_getD, (h i hi).2]
  · intro h i hi
    refine ⟨fun k hk => by simp [-List.getD_eq_getElem?_getD, okPair, kp1, kp3, kp4, hp], by simpa using h i hi⟩

theorem kp2_no (hp : p.kind = 2) {k : Nat} (hk : k < row.length) (h : ((row.getD k [] == p.a) && (decide ((k : Int) + 1 = row.length) || !(row.getD (k + 1) [] == p.b))) = false) : (!kp2 p row k) = true := by
  have e : decide ((k : Int) = (row.length : Int) - 1) = decide ((k : Int) + 1 = row.length) := by rw [decide_eq_decide]; omega
  simp only [kp2, hp, e, decide_true, Bool.true_and, h, Bool.not_false]
theorem kp2_yes (hp : p.kind = 2) {k : Nat} (hk : k < row.length) (h : ((row.getD k [] == p.a) && (decide ((k : Int) + 1 = row.length) || !(row.getD (k + 1) [] == p.b))) = true) : (!kp2 p row k) = false := by
  have e : decide ((k : Int) = (row.length : Int) - 1) = decide ((k : Int) + 1 = row.length) := by rw [decide_eq_decide]; omega
  simp only [kp2, hp, e, decide_true, Bool.true_and, h, Bool.not_true]

theorem keeps34 (hp : p.kind = 3 ∨ p.kind = 4) : keeps p row = noneTo p row row.length := by
  rw [Bool.eq_iff_iff, keeps_iff]
  unfold noneTo
  rw [all_range_iff]
  simp only [Bool.not_eq_true', Bool.and_eq_false_iff, beq_eq_false_iff_ne]
  rcases hp with hp | hp
  · have hr : ∀ i, rowAt p row i = row.getD i [] := fun i => by simp [-List.getD_eq_getElem?_getD, rowAt, hp]
    constructor
    · intro h i hi
      by_cases h1 : rowAt p row i = p.a
      · right
        cases hs : seenTo p row i with
        | false => rfl
        | true =>
          obtain ⟨j, hj, h2⟩ := seenTo_iff.1 hs
          rw [hr] at h1 h2
          have h3 := (h i hi).1 j (by omega)
          simp [-List.getD_eq_getElem?_getD, okPair, kp3, hp, h1, h2] at h3
          omega
      · exact .inl h1
    · intro h i hi
      refine ⟨fun k hk => ?_, by simp [-List.getD_eq_getElem?_getD, kp2, hp]⟩
      simp only [okPair, kp1, kp3, kp4, hp]
      by_cases hik : (k : Int) < i
      · rcases h i hi with h1 | h1
        · rw [hr] at h1; simp [-List.getD_eq_getElem?_getD, h1]
        · have h2 : row.getD k [] = p.a := by
            by_cases h3 : row.getD k [] = p.a
            · exact h3
            · exact absurd ((seenTo_iff (k := i)).2 ⟨k, by omega, by rw [hr]; exact h3⟩) (by rw [h1]; decide)
          simp [-List.getD_eq_getElem?_getD, h2]
      · simp [-List.getD_eq_getElem?_getD, hik]
  · have hr : ∀ i, rowAt p row i = row.getD (row.length - 1 - i) [] := fun i => by simp [-List.getD_eq_getElem?_getD, rowAt, hp]
    constructor
    · intro h i hi
      by_cases h1 : rowAt p row i = p.a
      · right
        cases hs : seenTo p row i with
        | false => rfl
        | true =>
          obtain ⟨j, hj, h2⟩ := seenTo_iff.1 hs
          rw [hr] at h1 h2
          have h3 := (h (row.length - 1 - i) (by omega)).1 (row.length - 1 - j) (by omega)
          simp [-List.getD_eq_getElem?_getD, okPair, kp4, hp, h1, h2] at h3
          omega
      · exact .inl h1
    · intro h i hi
      refine ⟨fun k hk => ?_, by simp [-List.getD_eq_getElem?_getD, kp2, hp]⟩
      simp only [okPair, kp1, kp3, kp4, hp]
      by_cases hik : (i : Int) < k
      · rcases h (row.length - 1 - i) (by omega) with h1 | h1
        · rw [hr, show row.length - 1 - (row.length - 1 - i) = i by omega] at h1; simp [-List.getD_eq_getElem?_getD, h1]
        · have h2 : row.getD k [] = p.a := by
            by_cases h3 : row.getD k [] = p.a
            · exact h3
            · exact absurd ((seenTo_iff (k := row.length - 1 - i)).2 ⟨row.length - 1 - k, by omega, by rw [hr, show row.length - 1 - (row.length - 1 - k) = k by omega]; exact h3⟩) (by rw [h1]; decide)
          simp [-List.getD_eq_getElem?_getD, h2]
      · simp [-List.getD_eq_getElem?_getD, hik]

/-- the kinds of elements in an order -/
def rowOf (ks : List Str) (l : List Int) : List Str := l.map fun i => ks.getD i.toNat []
def rowTo (ks : List Str) (l : List Int) (k : Nat) : List Str := (List.range l.length).map fun j => if j < k then ks.getD (l.getD j 0).toNat [] else []
theorem rowTo_zero (ks : List Str) (l : List Int) : rowTo ks l 0 = List.replicate l.length [] := by
  simp only [rowTo, Nat.not_lt_zero, if_false, List.map_const', List.length_range]
theorem rowTo_len (ks : List Str) (l : List Int) (k : Nat) : (rowTo ks l k).length = l.length := by simp [rowTo]
theorem rowTo_succ (ks : List Str) (l : List Int) {k : Nat} (hk : k < l.length) : (rowTo ks l k).set k (ks.getD (l.getD k 0).toNat []) = rowTo ks l (k + 1) := by
  apply List.ext_getElem
  · simp [rowTo]
  · intro i h1 h2
    simp only [rowTo, List.length_map, List.length_range, List.length_set] at h1 h2
    rw [List.getElem_set]
    by_cases e : k = i
    · subst e; simp only [if_true, rowTo, List.getElem_map, List.getElem_range, Nat.lt_succ_self]
    · simp only [e, if_false, rowTo, List.getElem_map, List.getElem_range]
      by_cases h3 : i < k
      · simp only [h3, if_true, show i < k + 1 by omega]
      · simp only [h3, if_false, show ¬ i < k + 1 by omega]
theorem rowTo_all (ks : List Str) (l : List Int) {k : Nat} (hk : l.length ≤ k) : rowTo ks l k = rowOf ks l := by
  apply List.ext_getElem
  · simp [rowTo, rowOf]
  · intro i h1 h2
    simp only [rowTo, List.length_map, List.length_range] at h1
    simp only [rowTo, rowOf, List.getElem_map, List.getElem_range, show i < k by omega, if_true]
    rw [List.getD_eq_getElem?_getD (l := l), List.getElem?_eq_getElem h1]; rfl

theorem rowOf_wf {ks : List Str} (h : ∀ x ∈ ks, x.length ≤ 9223372036854775807) (l : List Int) : ∀ x ∈ rowOf ks l, x.length ≤ 9223372036854775807 := by
  intro x hx
  simp only [rowOf, List.mem_map] at hx
  obtain ⟨i, _, rfl⟩ := hx
  rw [List.getD_eq_getElem?_getD]
  cases hi : ks[i.toNat]? with
  | none => simp
  | some y => exact h y (List.mem_of_getElem? hi)
theorem rowOf_snoc (ks : List Str) {l : List Int} {k : Nat} {i : Int} (h : l[k]? = some i) : rowOf ks (l.take (k + 1)) = rowOf ks (l.take k) ++ [ks.getD i.toNat []] := by
  rw [take_of_some h]; simp only [rowOf, List.map_append, List.map_cons, List.map_nil]
theorem rowOf_length (ks : List Str) (l : List Int) : (rowOf ks l).length = l.length := by simp [rowOf]

/-- the last element of the beginning of an order is wrong in any case, by one rule and one element -/
def deadAt (ks : List Str) (last : Str) (p : Prec) (i : Int) : Bool :=
  ((decide (p.kind = 1) && (ks.getD i.toNat [] == p.b)) && (last == p.a)) || ((decide (p.kind = 3) && !(ks.getD i.toNat [] == p.a)) && (last == p.a))
def deadB (rules : List Prec) (ks : List Str) (l : List Int) : Bool :=
  rules.any fun p => l.dropLast.any fun i => deadAt ks (ks.getD (l.getD (l.length - 1) 0).toNat []) p i

/-- the first rule that a row breaks, or -1 -/
def brokenBy (rules : List Prec) (row : List Str) : Int := ix (fun p => !keeps p row) rules
end Go.J
