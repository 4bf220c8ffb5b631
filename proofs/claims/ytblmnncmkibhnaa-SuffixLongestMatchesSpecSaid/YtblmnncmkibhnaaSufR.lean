/-
  Plain facts on the ends of a list in their order: there is one such row; comparing lists; a search; swapping neighbours: no program stands here.
  Conditions: none.
-/
import Derived.Test.YtblmnncmkibhnaaSufQ
namespace Go.J
open Go

theorem suf_ex (p : List Int) : ∃ l, IsSuf p l := by
  let le : Nat → Nat → Bool := fun i j => !llt (p.drop j) (p.drop i)
  have hp : ((List.range p.length).mergeSort le).Perm (List.range p.length) := List.mergeSort_perm _ _
  refine ⟨(List.range p.length).mergeSort le, suf_of hp ?_⟩
  have hs : ((List.range p.length).mergeSort le).Pairwise (fun a b => le a b = true) := List.pairwise_mergeSort (fun a b c h1 h2 => by
    simp only [le, Bool.not_eq_true'] at h1 h2 ⊢
    cases h3 : llt (p.drop c) (p.drop a) with
    | false => rfl
    | true =>
      rcases llt_tri (p.drop b) (p.drop c) with t | t | t
      · rw [llt_trans t h3] at h1; cases h1
      · rw [t, h3] at h1; cases h1
      · rw [t] at h2; cases h2) (fun a b => by
    simp only [le, Bool.or_eq_true, Bool.not_eq_true']
    cases h3 : llt (p.drop b) (p.drop a) with
    | false => exact .inl rfl
    | true => exact .inr (llt_asymm h3)) _
  have hn : ((List.range p.length).mergeSort le).Nodup := perm_nodup hp
  have hb : ∀ a ∈ (List.range p.length).mergeSort le, a < p.length := fun a ha => List.mem_range.1 (hp.mem_iff.1 ha)
  refine List.Pairwise.imp_of_mem ?_ (hs.and hn)
  intro a b ha hb' h
  have h1 : llt (p.drop b) (p.drop a) = false := by simpa [le] using h.1
  rcases llt_tri (p.drop a) (p.drop b) with t | t | t
  · exact t
  · exact absurd (drop_inj (Nat.le_of_lt (hb a ha)) (Nat.le_of_lt (hb b hb')) t) h.2
  · rw [h1] at t; cases t
noncomputable def sufOf (p : List Int) : List Nat := Classical.choose (suf_ex p)
theorem sufOf_is (p : List Int) : IsSuf p (sufOf p) := Classical.choose_spec (suf_ex p)
theorem sufOf_eq {p : List Int} {l : List Nat} (h : IsSuf p l) : l = sufOf p := suf_unique h (sufOf_is p)

/-! comparing lists -/
def lcmp : List Int → List Int → Int
  | [], [] => 0
  | [], _ :: _ => -1
  | _ :: _, [] => 1
  | x :: a, y :: b => if sgn x y ≠ 0 then sgn x y else lcmp a b
theorem sgn_cases (a b : Int) : (a < b ∧ sgn a b = -1) ∨ (a = b ∧ sgn a b = 0) ∨ (b < a ∧ sgn a b = 1) := by
  unfold sgn
  rcases Int.lt_trichotomy a b with h | h | h
  · rw [if_pos h]; exact .inl ⟨h, rfl⟩
  · rw [if_neg (by omega), if_neg (by omega)]; exact .inr (.inl ⟨h, rfl⟩)
  · rw [if_neg (by omega), if_pos h]; exact .inr (.inr ⟨h, rfl⟩)
theorem lcmp_ge : ∀ a b : List Int, decide (lcmp a b ≥ 0) = !llt a b
  | [], [] => rfl
  | [], _ :: _ => rfl
  | _ :: _, [] => rfl
  | x :: a, y :: b => by
    have ih := lcmp_ge a b
    rw [lcmp, llt]
    rcases sgn_cases x y with ⟨h, e⟩ | ⟨h, e⟩ | ⟨h, e⟩
    · rw [e, if_pos (by decide), decide_eq_true h]; rfl
    · subst h
      rw [e, if_neg (by decide), ih]; simp
    · rw [e, if_pos (by decide), decide_eq_false (show ¬ x < y by omega), decide_eq_false (show ¬ x = y by omega)]; rfl
theorem lcmp_gt : ∀ a b : List Int, decide (lcmp a b > 0) = llt b a
  | [], [] => rfl
  | [], _ :: _ => rfl
  | _ :: _, [] => rfl
  | x :: a, y :: b => by
    have ih := lcmp_gt a b
    rw [lcmp, llt]
    rcases sgn_cases x y with ⟨h, e⟩ | ⟨h, e⟩ | ⟨h, e⟩
    · rw [e, if_pos (by decide), decide_eq_false (show ¬ y < x by omega), decide_eq_false (show ¬ y = x by omega)]; rfl
    · subst h
      rw [e, if_neg (by decide), ih]; simp
    · rw [e, if_pos (by decide), decide_eq_true h]; rfl
theorem lcmp_drop {a b : List Int} {k : Nat} (ha : k < a.length) (hb : k < b.length) : lcmp (a.drop k) (b.drop k) = if sgn (a.getD k 0) (b.getD k 0) ≠ 0 then sgn (a.getD k 0) (b.getD k 0) else lcmp (a.drop (k + 1)) (b.drop (k + 1)) := by
  rw [List.drop_eq_getElem_cons ha, List.drop_eq_getElem_cons hb, List.getD_eq_getElem?_getD, List.getElem?_eq_getElem ha, List.getD_eq_getElem?_getD, List.getElem?_eq_getElem hb, lcmp]
  rfl
theorem lcmp_end1 {a b : List Int} {k : Nat} (ha : k < a.length) (hb : b.length ≤ k) : lcmp (a.drop k) (b.drop k) = 1 := by
  rw [List.drop_eq_getElem_cons ha, List.drop_of_length_le hb]; rfl
theorem lcmp_end2 {a b : List Int} {k : Nat} (ha : a.length ≤ k) (hb : k < b.length) : lcmp (a.drop k) (b.drop k) = -1 := by
  rw [List.drop_eq_getElem_cons hb, List.drop_of_length_le ha]; rfl
theorem lcmp_end0 {a b : List Int} {k : Nat} (ha : a.length ≤ k) (hb : b.length ≤ k) : lcmp (a.drop k) (b.drop k) = 0 := by
  rw [List.drop_of_length_le hb, List.drop_of_length_le ha]; rfl

/-! a search -/
theorem search_end {n i : Nat} {q : Nat → Bool} (hi : i ≤ n) (h1 : ∀ k, k < i → q k = false) (h2 : ∀ k, i ≤ k → k < n → q k = true) : (List.range n).countP (fun k => !q k) = i := by
  obtain ⟨m, rfl⟩ : ∃ m, n = i + m := ⟨n - i, by omega⟩
  rw [List.range_add, List.countP_append]
  have e1 : (List.range i).countP (fun k => !q k) = i := by
    have : (List.range i).countP (fun k => !q k) = (List.range i).length := by
      rw [List.countP_eq_length]
      intro a ha
      rw [h1 a (List.mem_range.1 ha)]; rfl
    rw [this, List.length_range]
  have e2 : ((List.range m).map (i + ·)).countP (fun k => !q k) = 0 := by
    rw [List.countP_eq_zero]
    intro a ha
    obtain ⟨b, hb, rfl⟩ := List.mem_map.1 ha
    rw [h2 (i + b) (by omega) (by have := List.mem_range.1 hb; omega)]
    simp
  rw [e1, e2, Nat.add_zero]

/-! neighbours change places -/
theorem getD_mid {A B : List Nat} {k j : Nat} (hj : j = A.length) : (A ++ k :: B).getD j 0 = k := by
  subst hj
  rw [List.getD_eq_getElem?_getD, List.getElem?_append_right (Nat.le_refl _), Nat.sub_self]; rfl
theorem set_mid {A B : List Nat} {k x j : Nat} (hj : j = A.length) : (A ++ k :: B).set j x = A ++ x :: B := by
  subst hj
  rw [List.set_append_right _ _ (Nat.le_refl _), Nat.sub_self]; rfl
theorem swap_mid {A B : List Nat} {a k j : Nat} (hj : j = A.length + 1) : (((A ++ [a]) ++ k :: B).set j ((A ++ [a] ++ k :: B).getD (j - 1) 0)).set (j - 1) ((A ++ [a] ++ k :: B).getD j 0) = A ++ k :: a :: B := by
  have e1 : (A ++ [a] ++ k :: B).getD (j - 1) 0 = a := by rw [List.append_assoc, List.singleton_append]; exact getD_mid (by omega)
  have e2 : (A ++ [a] ++ k :: B).getD j 0 = k := getD_mid (by simp; omega)
  rw [e1, e2, set_mid (A := A ++ [a]) (by simp; omega), List.append_assoc, List.singleton_append, set_mid (by omega)]
theorem last_of {A : List Nat} (h : 0 < A.length) : ∃ A' a, A = A' ++ [a] := by
  rcases List.eq_nil_or_concat A with rfl | ⟨A', a, rfl⟩
  · simp at h
  · exact ⟨A', a, by simp⟩
theorem pre_cut {p : List Int} {m i : Nat} (hi : i ≤ p.length) : (p.drop i).take (min p.length (i + m) - i) = pre p m i := by
  unfold pre
  rcases Nat.le_total p.length (i + m) with h | h
  · rw [Nat.min_eq_left h, List.take_of_length_le (by simp), List.take_of_length_le (by simp; omega)]
  · rw [Nat.min_eq_right h, show i + m - i = m by omega]
def placesTo (p part : List Int) (k : Nat) : List Nat := (List.range k).filter fun i => decide (pre p part.length i = part)
theorem placesTo_zero (p part : List Int) : placesTo p part 0 = [] := rfl
theorem placesTo_end (p part : List Int) : placesTo p part p.length = placesOf p part := rfl
theorem placesTo_t {p part : List Int} {k : Nat} (h : pre p part.length k = part) : placesTo p part (k + 1) = placesTo p part k ++ [k] := by
  unfold placesTo
  rw [List.range_succ, List.filter_append]
  simp [h]
theorem placesTo_f {p part : List Int} {k : Nat} (h : pre p part.length k ≠ part) : placesTo p part (k + 1) = placesTo p part k := by
  unfold placesTo
  rw [List.range_succ, List.filter_append]
  simp [h]
theorem placesTo_len (p part : List Int) (k : Nat) : (placesTo p part k).length ≤ k := by
  unfold placesTo
  have := List.length_filter_le (fun i => decide (pre p part.length i = part)) (List.range k)
  rwa [List.length_range] at this
end Go.J
