/-
  Plain facts on the ends of a list in their order: inserting one after the other, the places of a part: no program stands here.
  Conditions: none.
-/
import Derived.Test.YtblmnncmkibhnaaSufP
namespace Go.J
open Go

section
variable {p : List Int}
theorem llt_drop {a b : Nat} (ha : a < p.length) (hb : b < p.length) : llt (p.drop a) (p.drop b) = (decide (p.getD a 0 < p.getD b 0) || (decide (p.getD a 0 = p.getD b 0) && llt (p.drop (a + 1)) (p.drop (b + 1)))) := by
  rw [List.drop_eq_getElem_cons ha, List.drop_eq_getElem_cons hb, List.getD_eq_getElem?_getD, List.getElem?_eq_getElem ha, List.getD_eq_getElem?_getD, List.getElem?_eq_getElem hb]
  rfl
theorem llt_drop_eq {a b : Nat} (ha : a < p.length) (hb : b < p.length) (h : p.getD a 0 = p.getD b 0) : llt (p.drop a) (p.drop b) = llt (p.drop (a + 1)) (p.drop (b + 1)) := by
  rw [llt_drop ha hb, h]; simp
theorem llt_drop_ne {a b : Nat} (ha : a < p.length) (hb : b < p.length) (h : p.getD a 0 ≠ p.getD b 0) : llt (p.drop a) (p.drop b) = decide (p.getD a 0 < p.getD b 0) := by
  rw [llt_drop ha hb, decide_eq_false h, Bool.false_and, Bool.or_false]
theorem llt_drop_end {a b : Nat} (h : p.length ≤ a ∨ p.length ≤ b) : llt (p.drop a) (p.drop b) = (decide (p.length ≤ a) && decide (b < p.length)) := by
  by_cases ha : p.length ≤ a
  · rw [List.drop_of_length_le ha, decide_eq_true ha, Bool.true_and]
    by_cases hb : b < p.length
    · rw [List.drop_eq_getElem_cons hb, decide_eq_true hb]; rfl
    · rw [List.drop_of_length_le (show p.length ≤ b by omega), decide_eq_false hb]; rfl
  · rw [decide_eq_false ha, Bool.false_and, List.drop_of_length_le (show p.length ≤ b by omega)]
    cases p.drop a <;> rfl
theorem drop_inj {a b : Nat} (ha : a ≤ p.length) (hb : b ≤ p.length) (h : p.drop a = p.drop b) : a = b := by
  have := congrArg List.length h
  simp only [List.length_drop] at this
  omega
abbrev Sx (p : List Int) (l : List Nat) : Prop := l.Pairwise (fun a b => llt (p.drop a) (p.drop b) = true)
theorem suf_of {l : List Nat} (hp : l.Perm (List.range p.length)) (h : Sx p l) : IsSuf p l := by
  refine ⟨hp, fun j k hjk hk => ?_⟩
  have := List.pairwise_iff_getElem.1 h j k (by omega) hk hjk
  rwa [List.getD_eq_getElem?_getD, List.getElem?_eq_getElem (show j < l.length by omega), List.getD_eq_getElem?_getD, List.getElem?_eq_getElem hk]
theorem suf_pw {l : List Nat} (hm : IsSuf p l) : Sx p l := by
  refine List.pairwise_iff_getElem.2 ?_
  intro i j hi hj hij
  have := hm.2 i j hij hj
  rwa [List.getD_eq_getElem?_getD, List.getElem?_eq_getElem hi, List.getD_eq_getElem?_getD, List.getElem?_eq_getElem hj] at this
/-- inserting: i stands between A and B, all but i is sorted, i is less than B -/
structure InsI (p : List Int) (i : Nat) (A B : List Nat) : Prop where
  perm : (A ++ B).Perm (List.range i)
  srt : Sx p (A ++ B)
  less : ∀ b ∈ B, llt (p.drop i) (p.drop b) = true
theorem InsI.init {i : Nat} {l : List Nat} (hp : l.Perm (List.range i)) (h : Sx p l) : InsI p i l [] := ⟨by simpa using hp, by simpa using h, fun _ h => by cases h⟩
theorem InsI.step {i a : Nat} {A B : List Nat} (h : InsI p i (A ++ [a]) B) (hl : llt (p.drop i) (p.drop a) = true) : InsI p i A (a :: B) :=
  ⟨by simpa using h.perm, by simpa using h.srt, fun b hb => by rcases List.mem_cons.1 hb with rfl | hb; exact hl; exact h.less b hb⟩
theorem InsI.done {i : Nat} {A B : List Nat} (h : InsI p i A B) (hi : i < p.length) (hl : A = [] ∨ ∃ A' a, A = A' ++ [a] ∧ llt (p.drop i) (p.drop a) = false) : (A ++ i :: B).Perm (List.range (i + 1)) ∧ Sx p (A ++ i :: B) := by
  have hmem : ∀ x ∈ A ++ B, x < i := fun x hx => List.mem_range.1 (h.perm.mem_iff.1 hx)
  constructor
  · rw [List.range_succ]
    exact List.perm_middle.trans ((h.perm.cons i).trans (List.perm_append_singleton i _).symm)
  · have hs := List.pairwise_append.1 h.srt
    have hA : ∀ x ∈ A, llt (p.drop x) (p.drop i) = true := by
      rcases hl with rfl | ⟨A', a, rfl, hla⟩
      · intro x hx; cases hx
      · have last : llt (p.drop a) (p.drop i) = true := by
          have hai := hmem a (by simp)
          rcases llt_tri (p.drop a) (p.drop i) with q | q | q
          · exact q
          · have := drop_inj (by omega) (by omega) q; omega
          · rw [hla] at q; cases q
        intro x hx
        rcases List.mem_append.1 hx with hx | hx
        · exact llt_trans ((List.pairwise_append.1 hs.1).2.2 x hx a (List.mem_singleton_self _)) last
        · rw [List.mem_singleton.1 hx]; exact last
    refine List.pairwise_append.2 ⟨hs.1, List.pairwise_cons.2 ⟨h.less, hs.2.1⟩, ?_⟩
    intro x hx y hy
    rcases List.mem_cons.1 hy with rfl | hy
    · exact hA x hx
    · exact hs.2.2 x hx y hy

/-! the places of a part -/
def placesOf (p part : List Int) : List Nat := (List.range p.length).filter fun i => decide (pre p part.length i = part)
theorem pre_eq_iff {part : List Int} {i : Nat} : pre p part.length i = part ↔ i + part.length ≤ p.length ∧ (∀ k, k < part.length → p.getD (i + k) 0 = part.getD k 0) ∨ part = [] := by
  constructor
  · intro h
    have hl := congrArg List.length h
    rw [pre_length] at hl
    cases hp : part with
    | nil => right; rfl
    | cons a x =>
      left
      rw [← hp]
      have hpos : 0 < part.length := by rw [hp]; simp
      refine ⟨by omega, fun k hk => ?_⟩
      have := congrArg (fun l => l[k]?) h
      simp only [pre, List.getElem?_take, List.getElem?_drop, if_pos hk] at this
      rw [List.getD_eq_getElem?_getD, this, ← List.getD_eq_getElem?_getD]
  · rintro (⟨h1, h2⟩ | rfl)
    · apply List.ext_getElem?
      intro k
      simp only [pre, List.getElem?_take, List.getElem?_drop]
      split
      · rename_i hk
        have := h2 k hk
        rw [List.getD_eq_getElem?_getD, List.getD_eq_getElem?_getD, List.getElem?_eq_getElem (show i + k < p.length by omega), List.getElem?_eq_getElem hk] at this
        rw [List.getElem?_eq_getElem (show i + k < p.length by omega), List.getElem?_eq_getElem hk]
        simpa using this
      · rename_i hk
        rw [List.getElem?_eq_none (by omega)]
    · simp [pre]
theorem pre_ne_long {part : List Int} {i : Nat} (hi : i ≤ p.length) (h : p.length < i + part.length) : pre p part.length i ≠ part := by
  intro e
  have := congrArg List.length e
  rw [pre_length] at this
  omega
theorem pre_snoc {part : List Int} {x : Int} {i : Nat} (hi : i < p.length) : pre p (part ++ [x]).length i = part ++ [x] ↔ pre p part.length i = part ∧ i + part.length < p.length ∧ p.getD (i + part.length) 0 = x := by
  rw [List.length_append, List.length_singleton, pre_add]
  constructor
  · intro h
    have hl := congrArg List.length h
    simp only [List.length_append, pre_length, List.length_singleton] at hl
    have h1 := List.append_inj h (by rw [pre_length]; omega)
    refine ⟨h1.1, by omega, ?_⟩
    have h2 := h1.2
    rw [pre_one _ (by omega)] at h2
    simpa using h2
  · rintro ⟨h1, h2, h3⟩
    rw [h1, pre_one _ h2, h3]

/-! a row in order, cut where a part begins and ends -/
theorem pre_mono {m i j : Nat} (h : llt (p.drop i) (p.drop j) = true) : llt (pre p m j) (pre p m i) = false := by
  have e1 : p.drop i = pre p m i ++ p.drop (i + m) := by unfold pre; rw [← List.drop_drop, List.take_append_drop]
  have e2 : p.drop j = pre p m j ++ p.drop (j + m) := by unfold pre; rw [← List.drop_drop, List.take_append_drop]
  cases hc : llt (pre p m j) (pre p m i) with
  | false => rfl
  | true =>
    have : llt (p.drop j) (p.drop i) = true := by
      rw [e1, e2, llt_append, hc]
      · rfl
      · rw [pre_length, pre_length]
        by_cases h1 : min m (p.length - j) = min m (p.length - i)
        · exact .inl h1
        · rcases Nat.lt_or_gt_of_ne h1 with h | h
          · exact .inr (.inl ⟨h, List.drop_of_length_le (by omega)⟩)
          · exact .inr (.inr ⟨h, List.drop_of_length_le (by omega)⟩)
    rw [llt_asymm h] at this
    cases this
theorem countP_cut {n : Nat} {q : Nat → Bool} (hm : ∀ a b, a ≤ b → b < n → q a = true → q b = true) : ∀ k, k < n → (q k = true ↔ (List.range n).countP (fun i => !q i) ≤ k) := by
  induction n with
  | zero => intro k hk; omega
  | succ n ih =>
    have hm' : ∀ a b, a ≤ b → b < n → q a = true → q b = true := fun a b h1 h2 h3 => hm a b h1 (by omega) h3
    have hle : (List.range n).countP (fun i => !q i) ≤ n := by have := List.countP_le_length (p := fun i => !q i) (l := List.range n); rwa [List.length_range] at this
    intro k hk
    rw [List.range_succ, List.countP_append]
    cases hn : q n with
    | true =>
      have e : List.countP (fun i => !q i) [n] = 0 := by simp [hn]
      rw [e, Nat.add_zero]
      rcases Nat.lt_or_ge k n with h | h
      · exact ih hm' k h
      · obtain rfl : k = n := by omega
        simp [hn, hle]
    | false =>
      have e : List.countP (fun i => !q i) [n] = 1 := by simp [hn]
      rw [e]
      have all : ∀ j, j ≤ n → q j = false := fun j hj => by
        cases hq : q j with
        | false => rfl
        | true => have := hm j n hj (by omega) hq; rw [hn] at this; cases this
      have full : (List.range n).countP (fun i => !q i) = n := by
        have : (List.range n).countP (fun i => !q i) = (List.range n).length := by
          rw [List.countP_eq_length]
          intro a ha
          rw [all a (by have := List.mem_range.1 ha; omega)]
          rfl
        rw [this, List.length_range]
      rw [full, all k (by omega)]
      constructor
      · intro h; cases h
      · intro h; omega
/-- what lies between is the filtered row -/
theorem filter_cut {l : List Nat} {Q : Nat → Bool} {a b : Nat} (hab : a ≤ b) (hb : b ≤ l.length) (h : ∀ k, k < l.length → (Q (l.getD k 0) = true ↔ a ≤ k ∧ k < b)) : (l.drop a).take (b - a) = l.filter Q := by
  have e : l = l.take a ++ ((l.drop a).take (b - a) ++ l.drop b) := by
    have h1 : l.drop b = (l.drop a).drop (b - a) := by rw [List.drop_drop]; congr 1; omega
    rw [h1, List.take_append_drop, List.take_append_drop]
  have at_ : ∀ k, k < l.length → l.getD k 0 = l[k]! := fun k hk => by rw [List.getD_eq_getElem?_getD, List.getElem?_eq_getElem hk, getElem!_pos l k hk]; rfl
  have f1 : (l.take a).filter Q = [] := by
    rw [List.filter_eq_nil_iff]
    intro x hx hq
    obtain ⟨k, hk, rfl⟩ := List.mem_iff_getElem.1 hx
    rw [List.length_take] at hk
    rw [List.getElem_take] at hq
    have := (h k (by omega)).1 (by rw [List.getD_eq_getElem?_getD, List.getElem?_eq_getElem (show k < l.length by omega)]; exact hq)
    omega
  have f2 : ((l.drop a).take (b - a)).filter Q = (l.drop a).take (b - a) := by
    rw [List.filter_eq_self]
    intro x hx
    obtain ⟨k, hk, rfl⟩ := List.mem_iff_getElem.1 hx
    rw [List.length_take, List.length_drop] at hk
    rw [List.getElem_take, List.getElem_drop]
    have := (h (a + k) (by omega)).2 ⟨by omega, by omega⟩
    rwa [List.getD_eq_getElem?_getD, List.getElem?_eq_getElem (show a + k < l.length by omega)] at this
  have f3 : (l.drop b).filter Q = [] := by
    rw [List.filter_eq_nil_iff]
    intro x hx hq
    obtain ⟨k, hk, rfl⟩ := List.mem_iff_getElem.1 hx
    rw [List.length_drop] at hk
    rw [List.getElem_drop] at hq
    have := (h (b + k) (by omega)).1 (by rw [List.getD_eq_getElem?_getD, List.getElem?_eq_getElem (show b + k < l.length by omega)]; exact hq)
    omega
  conv => rhs; rw [e]
  rw [List.filter_append, List.filter_append, f1, f2, f3]
  simp
/-- a search in a row in order finds the places of a part -/
theorem places_cut {l : List Nat} {part : List Int} (hs : IsSuf p l) {a b : Nat} (ha : a = (List.range l.length).countP (fun k => !(!llt (pre p part.length (l.getD k 0)) part)))
    (hb : b = (List.range l.length).countP (fun k => !(llt part (pre p part.length (l.getD k 0))))) : a ≤ b ∧ b ≤ l.length ∧ ((l.drop a).take (b - a)).Perm (placesOf p part) := by
  have m1 : ∀ i j, i ≤ j → j < l.length → (!llt (pre p part.length (l.getD i 0)) part) = true → (!llt (pre p part.length (l.getD j 0)) part) = true := by
    intro i j hij hj h
    rcases Nat.lt_or_ge i j with h1 | h1
    · have h2 := pre_mono (m := part.length) (hs.2 i j h1 hj)
      cases hc : llt (pre p part.length (l.getD j 0)) part with
      | false => rfl
      | true =>
        exfalso
        rcases llt_tri (pre p part.length (l.getD i 0)) (pre p part.length (l.getD j 0)) with q | q | q
        · rw [llt_trans q hc] at h; cases h
        · rw [q, hc] at h; cases h
        · rw [h2] at q; cases q
    · obtain rfl : i = j := by omega
      exact h
  have m2 : ∀ i j, i ≤ j → j < l.length → llt part (pre p part.length (l.getD i 0)) = true → llt part (pre p part.length (l.getD j 0)) = true := by
    intro i j hij hj h
    rcases Nat.lt_or_ge i j with h1 | h1
    · have h2 := pre_mono (m := part.length) (hs.2 i j h1 hj)
      rcases llt_tri (pre p part.length (l.getD i 0)) (pre p part.length (l.getD j 0)) with q | q | q
      · exact llt_trans h q
      · rw [← q]; exact h
      · rw [h2] at q; cases q
    · obtain rfl : i = j := by omega
      exact h
  have c1 := countP_cut (n := l.length) (q := fun k => !llt (pre p part.length (l.getD k 0)) part) m1
  have c2 := countP_cut (n := l.length) (q := fun k => llt part (pre p part.length (l.getD k 0))) m2
  rw [← ha] at c1
  rw [← hb] at c2
  have hbl : b ≤ l.length := by rw [hb]; have := List.countP_le_length (p := fun k => !(llt part (pre p part.length (l.getD k 0)))) (l := List.range l.length); rwa [List.length_range] at this
  have hab : a ≤ b := by
    rw [ha, hb]
    apply List.countP_mono_left
    intro k _ h
    cases hc : llt part (pre p part.length (l.getD k 0)) with
    | false => rfl
    | true =>
      simp only [Bool.not_not] at h
      rw [llt_asymm h] at hc; cases hc
  refine ⟨hab, hbl, ?_⟩
  rw [filter_cut (Q := fun i => decide (pre p part.length i = part)) hab hbl]
  · exact hs.1.filter _
  · intro k hk
    have d1 := c1 k hk
    have d2 := c2 k hk
    simp only [Bool.not_eq_true'] at d1
    rw [decide_eq_true_eq, ← d1]
    constructor
    · intro h
      rw [h, llt_irrefl] at d2 ⊢
      refine ⟨rfl, ?_⟩
      apply Decidable.byContradiction
      intro hn
      have := d2.2 (by omega)
      cases this
    · rintro ⟨h1, h2⟩
      rcases llt_tri (pre p part.length (l.getD k 0)) part with q | q | q
      · rw [h1] at q; cases q
      · exact q
      · have := d2.1 q; omega
end
/-- a row of numbers, sorted, is the list in order that it is a permutation of -/
theorem sort_perm {m l : List Nat} (h : m.Perm l) (hl : l.Pairwise (· < ·)) : (m.map (fun i : Nat => (i : Int))).mergeSort (fun x y => decide (x ≤ y)) = l.map (fun i : Nat => (i : Int)) := by
  have h1 := List.pairwise_mergeSort (le := fun x y : Int => decide (x ≤ y)) (fun a b c h1 h2 => by simp only [decide_eq_true_eq] at *; omega) (fun a b => by simp only [Bool.or_eq_true, decide_eq_true_eq]; omega) (m.map (fun i : Nat => (i : Int)))
  have h2 : (l.map (fun i : Nat => (i : Int))).Pairwise (fun a b => decide (a ≤ b) = true) := by
    rw [List.pairwise_map]
    exact hl.imp (fun h => by simp only [decide_eq_true_eq]; omega)
  have hp : ((m.map (fun i : Nat => (i : Int))).mergeSort (fun x y => decide (x ≤ y))).Perm (l.map (fun i : Nat => (i : Int))) := (List.mergeSort_perm _ _).trans (h.map _)
  exact hp.eq_of_pairwise (fun a b _ _ h1 h2 => by simp only [decide_eq_true_eq] at h1 h2; omega) h1 h2
theorem placesOf_sorted (p part : List Int) : (placesOf p part).Pairwise (· < ·) := List.Pairwise.filter _ List.pairwise_lt_range
theorem placesOf_lt {p part : List Int} {i : Nat} (h : i ∈ placesOf p part) : i < p.length := List.mem_range.1 (List.mem_filter.1 h).1
theorem placesOf_snoc (p part : List Int) (x : Int) : placesOf p (part ++ [x]) = (placesOf p part).filter fun i => decide (i + part.length < p.length ∧ p.getD (i + part.length) 0 = x) := by
  unfold placesOf
  rw [List.filter_filter]
  apply List.filter_congr
  intro i hi
  have := pre_snoc (p := p) (part := part) (x := x) (List.mem_range.1 hi)
  rw [Bool.eq_iff_iff]
  simp only [Bool.and_eq_true, decide_eq_true_eq]
  rw [this]
  constructor
  · rintro ⟨h1, h2, h3⟩; exact ⟨⟨h2, h3⟩, h1⟩
  · rintro ⟨⟨h2, h3⟩, h1⟩; exact ⟨h1, h2, h3⟩
section
variable {n : Nat} {cf : Nat → Nat → Int} {l : List Nat}
theorem getD_set_self {rk : List Int} {a : Nat} {x : Int} (h : a < rk.length) : (rk.set a x).getD a 0 = x := by
  rw [List.getD_eq_getElem?_getD, List.getElem?_set_self h]; rfl
theorem getD_set_other {rk : List Int} {a b : Nat} {x : Int} (h : a ≠ b) : (rk.set a x).getD b 0 = rk.getD b 0 := by
  rw [List.getD_eq_getElem?_getD, List.getElem?_set_ne h, ← List.getD_eq_getElem?_getD]
theorem ranked_f {k : Nat} {rk : List Int} (hp : l.Perm (List.range n)) (hk : k < n) (hl : rk.length = n) (h : ∀ j, j < k → rk.getD (l.getD j 0) 0 = rkAt cf l j) (hc : ¬ (0 < k ∧ cf (l.getD (k - 1) 0) (l.getD k 0) = 0)) :
    ∀ j, j < k + 1 → (rk.set (l.getD k 0) (k : Int)).getD (l.getD j 0) 0 = rkAt cf l j := by
  intro j hj
  rcases Nat.lt_or_ge j k with h1 | h1
  · rw [getD_set_other (fun e => by have := perm_inj hp hk (show j < n by omega) e; omega)]
    exact h j h1
  · obtain rfl : j = k := by omega
    rw [getD_set_self (by rw [hl]; exact perm_lt hp hk)]
    cases j with
    | zero => rfl
    | succ j =>
      have e1 : j + 1 - 1 = j := by omega
      rw [e1] at hc
      rw [rkAt, if_neg (fun e => hc ⟨by omega, e⟩)]
theorem ranked_t {k : Nat} {rk : List Int} (hp : l.Perm (List.range n)) (hk : k < n) (hl : rk.length = n) (h : ∀ j, j < k → rk.getD (l.getD j 0) 0 = rkAt cf l j) (hc : 0 < k ∧ cf (l.getD (k - 1) 0) (l.getD k 0) = 0) :
    ∀ j, j < k + 1 → ((rk.set (l.getD k 0) (k : Int)).set (l.getD k 0) ((rk.set (l.getD k 0) (k : Int)).getD (l.getD (k - 1) 0) 0)).getD (l.getD j 0) 0 = rkAt cf l j := by
  intro j hj
  rcases Nat.lt_or_ge j k with h1 | h1
  · have ne : l.getD k 0 ≠ l.getD j 0 := fun e => by have := perm_inj hp hk (show j < n by omega) e; omega
    rw [getD_set_other ne, getD_set_other ne]
    exact h j h1
  · obtain rfl : j = k := by omega
    rw [getD_set_self (by rw [List.length_set, hl]; exact perm_lt hp hk), getD_set_other (fun e => by have := perm_inj hp hk (show j - 1 < n by omega) e; omega), h (j - 1) (by omega)]
    obtain ⟨i, rfl⟩ : ∃ i, j = i + 1 := ⟨j - 1, by omega⟩
    rw [rkAt, if_pos (by simpa using hc.2)]
    rfl
/-- the numbers below n, the first k of them laid -/
def iotaTo (n k : Nat) : List Int := (List.range n).map fun i => if i < k then (i : Int) else 0
theorem iotaTo_zero (n : Nat) : iotaTo n 0 = List.replicate n 0 := by
  apply List.ext_getElem?
  intro i
  simp only [iotaTo, List.getElem?_map, List.getElem?_replicate, Nat.not_lt_zero, if_false]
  by_cases h : i < n
  · rw [List.getElem?_range h]; simp [h]
  · rw [List.getElem?_eq_none (by simp; omega)]; simp [h]
theorem iotaTo_set {n k : Nat} (h : k < n) : (iotaTo n k).set k (k : Int) = iotaTo n (k + 1) := by
  apply List.ext_getElem?
  intro i
  simp only [iotaTo, List.getElem?_set, List.getElem?_map, List.length_map, List.length_range]
  by_cases hi : i < n
  · rw [List.getElem?_range hi]
    by_cases e : k = i
    · subst e; simp [h]
    · simp only [e, if_false, Option.map_some, Option.some.injEq]
      by_cases h2 : i < k
      · rw [if_pos h2, if_pos (by omega)]
      · rw [if_neg h2, if_neg (by omega)]
  · have h3 : (List.range n)[i]? = none := List.getElem?_eq_none (by simp; omega)
    rw [h3, if_neg (by omega)]; rfl
theorem iotaTo_end {n k : Nat} (h : n ≤ k) : iotaTo n k = (List.range n).map (fun i : Nat => (i : Int)) := by
  unfold iotaTo
  apply List.map_congr_left
  intro i hi
  rw [if_pos (by have := List.mem_range.1 hi; omega)]
end
end Go.J
