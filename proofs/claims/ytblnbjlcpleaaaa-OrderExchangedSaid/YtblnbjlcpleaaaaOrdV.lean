/-
  What the orders that are handed on look like: each is a permutation; what Orders, Count and First return, said by the list of all of them.
  Conditions: none.
-/
import Derived.Test.YtblnbjlcpleaaaaOrdS
import Derived.Test.YtblnbjlcpleaaaaW6
namespace Go.Proofs.Ytblnbjlcpleaaaa
open Go Go.J

theorem leaves_ok {n : Nat} : ∀ (m : Nat) (l x : List Int), x ∈ leaves n m l → (∀ i ∈ l, 0 ≤ i ∧ i < (n : Int)) → l.Nodup → (∀ i ∈ x, 0 ≤ i ∧ i < (n : Int)) ∧ x.Nodup ∧ x.length = l.length + m
  | 0, l, x, h, h1, h2 => by
    simp only [leaves, List.mem_singleton] at h
    subst h; exact ⟨h1, h2, rfl⟩
  | m + 1, l, x, h, h1, h2 => by
    simp only [leaves, List.mem_flatMap] at h
    obtain ⟨i, hi, hx⟩ := h
    split at hx
    · cases hx
    · rename_i hn
      have hn : ∀ y ∈ l, ¬ (i : Int) = y := fun y hy he => hn (List.any_eq_true.2 ⟨y, hy, by simpa using he⟩)
      have h3 := leaves_ok m (l ++ [(i : Int)]) x hx (fun y hy => by
        rcases List.mem_append.1 hy with hy | hy
        · exact h1 y hy
        · obtain rfl := List.mem_singleton.1 hy
          have := List.mem_range.1 hi; omega) (List.nodup_append.2 ⟨h2, by simp, fun a ha b hb hab => by
            obtain rfl := List.mem_singleton.1 hb
            exact hn a ha hab.symm⟩)
      simp only [List.length_append, List.length_singleton] at h3
      exact ⟨h3.1, h3.2.1, by omega⟩
theorem good_ok {rules : List Prec} {ks : List Str} {x : List Int} (h : x ∈ good rules ks) : (∀ i ∈ x, 0 ≤ i ∧ i < (ks.length : Int)) ∧ x.Nodup ∧ x.length = ks.length ∧ okO rules ks x = true := by
  obtain ⟨h1, h2⟩ := List.mem_filter.1 h
  have h3 := leaves_ok _ _ _ h1 (fun i hi => by cases hi) .nil
  exact ⟨h3.1, h3.2.1, by simpa using h3.2.2, h2⟩
theorem ordS_eq (rules : List Prec) (ks : List Str) : ordS rules ks = (good rules ks).take 1001 := by
  have h := runW_take 1000 (good rules ks) [] (Nat.zero_le _)
  rw [List.nil_append] at h
  rw [ordS, walkF_eq]
  exact h
theorem ordersOf_eq (rules : List Prec) (ks : List Str) : ordersOf rules ks = if (chk rules ks).1 ≠ 0 then ([], chk rules ks) else if 1000 < ((good rules ks).length : Int) then ([], (17, 0)) else (good rules ks, (0, 0)) := by
  rw [ordersOf, ordS_eq]
  split
  · rfl
  · by_cases h : (good rules ks).length ≤ 1000
    · rw [List.take_of_length_le (by omega)]
    · rw [if_pos (by rw [List.length_take]; omega), if_pos (by omega)]
theorem good_small {rules : List Prec} {ks : List Str} (h : ks.length ≤ 7) : (good rules ks).length ≤ 823543 := by
  refine Nat.le_trans (good_len rules ks) ?_
  have : ks.length = 0 ∨ ks.length = 1 ∨ ks.length = 2 ∨ ks.length = 3 ∨ ks.length = 4 ∨ ks.length = 5 ∨ ks.length = 6 ∨ ks.length = 7 := by omega
  rcases this with h | h | h | h | h | h | h | h <;> rw [h] <;> decide
theorem countOf_eq (rules : List Prec) (ks : List Str) : countOf rules ks = if (chk rules ks).1 ≠ 0 then (0, chk rules ks) else (((good rules ks).length : Int), (0, 0)) := by
  rw [countOf]
  split
  · rfl
  · rename_i h
    have h7 := (chk_ok (Classical.not_not.1 h)).2
    have hs := good_small (rules := rules) h7
    have h := runW_count (good rules ks) 0 (by omega) (by omega)
    rw [walkF_eq]
    rw [show (runW (fun _ _ => true) ynC ((leaves ks.length ks.length []).filter (okO rules ks)) 0).2 = _ from h, Int.zero_add]
theorem firstOf_eq (rules : List Prec) (ks : List Str) : firstOf rules ks = if (chk rules ks).1 ≠ 0 then (none, chk rules ks) else ((good rules ks).head?, (0, 0)) := by
  rw [firstOf]
  split
  · rfl
  · rw [walkF_eq]
    rw [show (runW (fun _ _ => false) (fun (_ : Option (List Int)) l => some l) ((leaves ks.length ks.length []).filter (okO rules ks)) none).2 = _ from runW_first _]
    rfl
theorem ordersOf_ok {rules : List Prec} {ks : List Str} (h : (ordersOf rules ks).2.1 = 0) : (chk rules ks).1 = 0 ∧ (good rules ks).length ≤ 1000 ∧ ordersOf rules ks = (good rules ks, (0, 0)) := by
  rw [ordersOf_eq] at h ⊢
  split at h
  · rename_i h0; exact absurd h h0
  · rename_i h0
    split at h
    · cases h
    · rename_i h1
      rw [if_neg h0, if_neg h1]
      exact ⟨Classical.not_not.1 h0, by omega, rfl⟩
theorem ofF_of {n : Int} : ∀ (l pre : List Int), (∀ i ∈ l, 0 ≤ i ∧ i < n) → (pre ++ l).Nodup → ofF n pre l = (0, 0)
  | [], _, _, _ => rfl
  | x :: l, pre, h, hn => by
    have hx := h x (List.mem_cons_self ..)
    have hn' := List.nodup_append.1 hn
    simp only [ofF]
    rw [if_neg (by omega), if_neg (by
      simp only [List.any_eq_true, decide_eq_true_eq, not_exists, not_and]
      intro y hy hxy
      exact hn'.2.2 y hy x (List.mem_cons_self ..) hxy.symm)]
    exact ofF_of l (pre ++ [x]) (fun i hi => h i (List.mem_cons_of_mem _ hi)) (by simpa using hn)
theorem faultOf_valid {rules : List Prec} {ks : List Str} {x : List Int} (hc : (chk rules ks).1 = 0) (h1 : ∀ i ∈ x, 0 ≤ i ∧ i < (ks.length : Int)) (h2 : x.Nodup) (h3 : x.length = ks.length) : faultOf rules ks x = (0, 0) := by
  have h0 : fault0 rules ks x = (0, 0) := by rw [fault0, if_neg (by omega), if_neg (by omega)]
  rw [faultOf, h0]
  exact ofF_of x [] h1 (by simpa using h2)
theorem allowedOf_valid {rules : List Prec} {ks : List Str} {x : List Int} (hc : (chk rules ks).1 = 0) (h1 : ∀ i ∈ x, 0 ≤ i ∧ i < (ks.length : Int)) (h2 : x.Nodup) (h3 : x.length = ks.length) : allowedOf rules ks x = (okO rules ks x, brokenBy rules (rowOf ks x), (0, 0)) := by
  rw [allowedOf, faultOf_valid hc h1 h2 h3]; rfl
theorem broken_none {rules : List Prec} {row : List Str} (h : ∀ p ∈ rules, keeps p row = true) : brokenBy rules row = -1 := by
  unfold brokenBy
  rcases ix_cases (fun p => !keeps p row) rules with ⟨h1, _⟩ | ⟨k, x, h1, h2, _⟩
  · exact h1
  · have := h x (List.mem_of_getElem? h1)
    simp [this] at h2
end Go.Proofs.Ytblnbjlcpleaaaa
