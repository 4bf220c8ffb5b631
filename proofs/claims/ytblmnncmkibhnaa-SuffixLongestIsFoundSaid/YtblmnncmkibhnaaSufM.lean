/-
  Plain facts on the number of different parts of a list: counted by their first places, and counted along the order of the ends: no program stands here.
  Conditions: none.
-/
import Derived.Test.YtblmnncmkibhnaaSufL
namespace Go.J
open Go

def sumN : Nat → (Nat → Nat) → Nat
  | 0, _ => 0
  | n + 1, f => sumN n f + f n
theorem sumN_congr {f g : Nat → Nat} : ∀ {n : Nat}, (∀ k, k < n → f k = g k) → sumN n f = sumN n g
  | 0, _ => rfl
  | n + 1, h => by rw [sumN, sumN, sumN_congr (fun k hk => h k (by omega)), h n (by omega)]
theorem sumN_add (f g : Nat → Nat) : ∀ n : Nat, sumN n (fun k => f k + g k) = sumN n f + sumN n g
  | 0 => rfl
  | n + 1 => by rw [sumN, sumN, sumN, sumN_add f g n]; omega
theorem sumN_zero : ∀ n : Nat, sumN n (fun _ => 0) = 0
  | 0 => rfl
  | n + 1 => by rw [sumN, sumN_zero n]
/-- two sums change places -/
theorem sumN_swap (m : Nat) (f : Nat → Nat → Nat) : ∀ n : Nat, sumN n (fun i => sumN m (fun j => f i j)) = sumN m (fun j => sumN n (fun i => f i j))
  | 0 => by simp only [sumN]; rw [sumN_zero]
  | n + 1 => by rw [sumN, sumN_swap m f n, ← sumN_add]; rfl
/-- how many different ones -/
def nd {α : Type} [DecidableEq α] : List α → Nat
  | [] => 0
  | x :: xs => (if x ∈ xs then 0 else 1) + nd xs
theorem nd_perm {α : Type} [DecidableEq α] {a b : List α} (h : a.Perm b) : nd a = nd b := by
  induction h with
  | nil => rfl
  | cons x hp ih =>
    rename_i l1 l2
    rw [nd, nd, ih]
    have : x ∈ l1 ↔ x ∈ l2 := hp.mem_iff
    simp only [this]
  | swap x y l =>
    simp only [nd, List.mem_cons]
    by_cases e : x = y
    · subst e; simp
    · have e' : ¬ y = x := fun h => e h.symm
      by_cases h1 : x ∈ l <;> by_cases h2 : y ∈ l <;> simp [e, e', h1, h2]
  | trans _ _ h1 h2 => rw [h1, h2]
/-- the different ones, counted by their first places -/
theorem nd_first {α : Type} [DecidableEq α] (q : Nat → Bool) (f : Nat → α) (l : List Nat) : ∀ k : Nat, k ≤ l.length →
    nd (((l.take k).filter q).map f).reverse = sumN k (fun j => if q (l.getD j 0) = true ∧ f (l.getD j 0) ∉ ((l.take j).filter q).map f then 1 else 0)
  | 0, _ => by simp [nd, sumN]
  | k + 1, h => by
    have ih := nd_first q f l k (by omega)
    have hx : l[k]? = some (l.getD k 0) := by rw [List.getD_eq_getElem?_getD, List.getElem?_eq_getElem (show k < l.length by omega)]; rfl
    rw [take_of_some hx, sumN, ← ih, List.filter_append, List.map_append, List.reverse_append]
    cases hq : q (l.getD k 0) with
    | false =>
      have e : [l.getD k 0].filter q = [] := by rw [List.filter_cons_of_neg (by rw [hq]; decide)]; rfl
      rw [e]; simp
    | true =>
      have e : [l.getD k 0].filter q = [l.getD k 0] := by rw [List.filter_cons_of_pos (by rw [hq])]; rfl
      rw [e, List.map_singleton, List.reverse_singleton, List.singleton_append, nd]
      simp only [List.mem_reverse]
      by_cases hm : f (l.getD k 0) ∈ ((l.take k).filter q).map f
      · rw [if_pos hm, if_neg (fun h => h.2 hm)]; omega
      · rw [if_neg hm, if_pos ⟨trivial, hm⟩]; omega
/-- counted along two orders, they are as many -/
theorem nd_two {α : Type} [DecidableEq α] (q : Nat → Bool) (f : Nat → α) {l l' : List Nat} (h : l.Perm l') :
    sumN l.length (fun j => if q (l.getD j 0) = true ∧ f (l.getD j 0) ∉ ((l.take j).filter q).map f then 1 else 0) = sumN l'.length (fun j => if q (l'.getD j 0) = true ∧ f (l'.getD j 0) ∉ ((l'.take j).filter q).map f then 1 else 0) := by
  rw [← nd_first q f l l.length (Nat.le_refl _), ← nd_first q f l' l'.length (Nat.le_refl _), List.take_length, List.take_length]
  exact nd_perm ((List.reverse_perm _).trans (((h.filter q).map f).trans (List.reverse_perm _).symm))
section
variable {p : List Int}
theorem lcp_pre {i j : Nat} : ∀ m : Nat, m ≤ lcp p i j → pre p m i = pre p m j ∧ i + m ≤ max p.length i
  | 0, _ => ⟨by simp [pre], by omega⟩
  | m + 1, h => by
    have ih := lcp_pre (i := i) (j := j) m (by omega)
    have hl := lcp_le (p := p) (i := i) (j := j)
    have hl2 : lcp p i j ≤ p.length - j := by have := lcp_le (p := p) (i := j) (j := i); unfold lcp at *; rw [lcpL_symm]; exact this
    refine ⟨?_, by omega⟩
    rw [pre_add, pre_add, ih.1, pre_one _ (by omega), pre_one _ (by omega)]
    apply Decidable.byContradiction
    intro hne
    have := lcp_end (p := p) (i := i) (j := j) (h := m) (by omega) (by rintro ⟨_, _, q⟩; rw [q] at hne; exact hne rfl)
    omega
theorem pre_lcp {i j : Nat} : ∀ m : Nat, i + m ≤ p.length → j + m ≤ p.length → pre p m i = pre p m j → m ≤ lcp p i j
  | 0, _, _, _ => Nat.zero_le _
  | m + 1, hi, hj, h => by
    rw [pre_add, pre_add] at h
    have h1 := List.append_inj h (by rw [pre_length, pre_length]; omega)
    have ih := pre_lcp m (by omega) (by omega) h1.1
    refine lcp_more ih (by omega) (by omega) ?_
    have h2 := h1.2
    rw [pre_one _ (by omega), pre_one _ (by omega)] at h2
    simpa using h2
/-- a part stands at an end before this one in the order, just if the neighbour shares it -/
theorem near_has {l : List Nat} (hs : IsSuf p l) {m j : Nat} (hj : j < p.length) (hq : l.getD j 0 + (m + 1) ≤ p.length) :
    pre p (m + 1) (l.getD j 0) ∈ ((l.take j).filter (fun i => decide (i + (m + 1) ≤ p.length))).map (pre p (m + 1)) ↔ m + 1 ≤ near p l j := by
  have hl : l.length = p.length := by rw [hs.1.length_eq, List.length_range]
  have at_ : ∀ a, a < p.length → l[a]? = some (l.getD a 0) := fun a ha => by rw [List.getD_eq_getElem?_getD, List.getElem?_eq_getElem (show a < l.length by omega)]; rfl
  constructor
  · intro h
    obtain ⟨i, hi, he⟩ := List.mem_map.1 h
    obtain ⟨hi1, hi2⟩ := List.mem_filter.1 hi
    obtain ⟨a, ha, rfl⟩ := List.mem_iff_getElem.1 hi1
    rw [List.length_take] at ha
    have ea : (l.take j)[a] = l.getD a 0 := by
      rw [List.getElem_take, List.getD_eq_getElem?_getD, List.getElem?_eq_getElem (show a < l.length by omega)]; rfl
    rw [ea] at he hi2
    have hi2' : l.getD a 0 + (m + 1) ≤ p.length := by simpa using hi2
    unfold near
    rw [if_neg (by omega)]
    have hb : pre p (m + 1) (l.getD (j - 1) 0) = pre p (m + 1) (l.getD j 0) := by
      rcases Nat.lt_or_ge a (j - 1) with q | q
      · have c1 := pre_mono (m := m + 1) (hs.2 a (j - 1) q (by omega))
        have c2 := pre_mono (m := m + 1) (hs.2 (j - 1) j (by omega) (by omega))
        rw [he] at c1
        rcases llt_tri (pre p (m + 1) (l.getD (j - 1) 0)) (pre p (m + 1) (l.getD j 0)) with t | t | t
        · rw [t] at c1; cases c1
        · exact t
        · rw [t] at c2; cases c2
      · obtain rfl : a = j - 1 := by omega
        exact he
    have hlen := congrArg List.length hb
    rw [pre_length, pre_length] at hlen
    exact pre_lcp (m + 1) (by omega) hq hb
  · intro h
    unfold near at h
    by_cases hj0 : j = 0
    · rw [if_pos hj0] at h; omega
    · rw [if_neg hj0] at h
      have hp1 := lcp_pre (m + 1) h
      have hk := perm_lt hs.1 (show j - 1 < p.length by omega)
      refine List.mem_map.2 ⟨l.getD (j - 1) 0, List.mem_filter.2 ⟨?_, by rw [decide_eq_true_eq]; omega⟩, hp1.1⟩
      refine List.mem_of_getElem? (i := j - 1) ?_
      rw [List.getElem?_take, if_pos (by omega), at_ (j - 1) (by omega)]
theorem sumN_between {a b : Nat} : ∀ {n : Nat}, a ≤ b → sumN n (fun m => if a ≤ m ∧ m < b then 1 else 0) = min n b - min n a
  | 0, _ => by simp [sumN]
  | n + 1, h => by
    rw [sumN, sumN_between h]
    by_cases q : a ≤ n ∧ n < b
    · rw [if_pos q]; omega
    · rw [if_neg q]; omega
/-- the parts, counted by their first places -/
def isFirst (p : List Int) (i m : Nat) : Bool := decide (i + (m + 1) ≤ p.length) && decide (∀ k, k < i → pre p (m + 1) k ≠ pre p (m + 1) i)
def partsN (p : List Int) : Nat := sumN p.length (fun i => sumN p.length (fun m => if isFirst p i m = true then 1 else 0))
theorem near_top {l : List Nat} {j : Nat} : near p l j ≤ p.length - l.getD j 0 := by
  unfold near
  split
  · exact Nat.zero_le _
  · unfold lcp; rw [lcpL_symm]; exact lcp_le (p := p) (i := l.getD j 0) (j := l.getD (j - 1) 0)
theorem disTo_sum {l : List Nat} (hp : l.Perm (List.range p.length)) : ∀ k : Nat, k ≤ p.length → disTo p l k = (sumN k (fun j => p.length - l.getD j 0 - near p l j) : Nat)
  | 0, _ => rfl
  | k + 1, h => by
    have ih := disTo_sum hp k (by omega)
    have := near_top (p := p) (l := l) (j := k)
    have := perm_lt hp (show k < p.length by omega)
    rw [disTo, sumN, ih]
    omega
theorem parts_eq {l : List Nat} (hs : IsSuf p l) : (partsN p : Int) = disTo p l p.length := by
  have hl : l.length = p.length := by rw [hs.1.length_eq, List.length_range]
  rw [disTo_sum hs.1 p.length (Nat.le_refl _)]
  congr 1
  unfold partsN
  rw [sumN_swap]
  have step : ∀ m, m < p.length → sumN p.length (fun i => if isFirst p i m = true then 1 else 0) = sumN p.length (fun j => if near p l j ≤ m ∧ m < p.length - l.getD j 0 then 1 else 0) := by
    intro m _
    have h2 := nd_two (fun i => decide (i + (m + 1) ≤ p.length)) (pre p (m + 1)) hs.1
    rw [List.length_range, hl] at h2
    refine Eq.trans ?_ (Eq.trans h2.symm ?_)
    rotate_left
    · refine sumN_congr fun j hj => ?_
      by_cases hq : l.getD j 0 + (m + 1) ≤ p.length
      · have hh := near_has hs hj hq
        by_cases hm : m + 1 ≤ near p l j
        · rw [if_neg (fun h => h.2 (hh.2 hm)), if_neg (by omega)]
        · rw [if_pos ⟨decide_eq_true hq, fun h => hm (hh.1 h)⟩, if_pos (by omega)]
      · rw [if_neg (fun h => hq (of_decide_eq_true h.1)), if_neg (by omega)]
    · refine sumN_congr fun j hj => ?_
      have e : (List.range p.length).getD j 0 = j := by rw [List.getD_eq_getElem?_getD, List.getElem?_range hj]; rfl
      rw [e]
      have e2 : (List.range p.length).take j = List.range j := by rw [List.take_range, Nat.min_eq_left (by omega)]
      rw [e2]
      by_cases hq : j + (m + 1) ≤ p.length
      · by_cases hm : ∀ k, k < j → pre p (m + 1) k ≠ pre p (m + 1) j
        · rw [if_pos (by unfold isFirst; rw [decide_eq_true hq, decide_eq_true hm]; rfl), if_pos ⟨decide_eq_true hq, fun h => by
            obtain ⟨k, hk, he⟩ := List.mem_map.1 h
            exact hm k (List.mem_range.1 (List.mem_filter.1 hk).1) he⟩]
        · rw [if_neg (by unfold isFirst; rw [decide_eq_false hm, Bool.and_false]; decide), if_neg (fun h => h.2 (by
            apply Decidable.byContradiction
            intro hc
            apply hm
            intro k hk he
            exact hc (List.mem_map.2 ⟨k, List.mem_filter.2 ⟨List.mem_range.2 hk, by rw [decide_eq_true_eq]; omega⟩, he⟩)))]
      · rw [if_neg (by unfold isFirst; rw [decide_eq_false hq, Bool.false_and]; decide), if_neg (fun h => hq (of_decide_eq_true h.1))]
  rw [sumN_congr step, sumN_swap]
  refine sumN_congr fun j hj => ?_
  have := near_top (p := p) (l := l) (j := j)
  rw [sumN_between this]
  omega
end
end Go.J
