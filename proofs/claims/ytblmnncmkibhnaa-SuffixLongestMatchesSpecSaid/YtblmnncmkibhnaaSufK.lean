/-
  Plain facts on what the ends of a list have in common: from one end to the next, what is shared with the end before it grows less by at most one: no program stands here.
  Conditions: none.
-/
import Derived.Test.YtblmnncmkibhnaaSufR
namespace Go.J
open Go

/-- how many numbers two lists begin with alike -/
def lcpL : List Int → List Int → Nat
  | x :: a, y :: b => if x = y then lcpL a b + 1 else 0
  | _, _ => 0
theorem lcpL_le1 : ∀ a b : List Int, lcpL a b ≤ a.length
  | [], [] => Nat.le_refl _
  | [], _ :: _ => Nat.le_refl _
  | _ :: _, [] => Nat.zero_le _
  | x :: a, y :: b => by
    have := lcpL_le1 a b
    unfold lcpL
    split
    · simp; omega
    · exact Nat.zero_le _
theorem lcpL_symm : ∀ a b : List Int, lcpL a b = lcpL b a
  | [], [] => rfl
  | [], _ :: _ => rfl
  | _ :: _, [] => rfl
  | x :: a, y :: b => by
    unfold lcpL
    rw [lcpL_symm a b]
    by_cases h : x = y
    · rw [if_pos h, if_pos h.symm]
    · rw [if_neg h, if_neg (fun e => h e.symm)]
theorem lcpL_nil1 (z : List Int) : lcpL [] z = 0 := by cases z <;> rfl
theorem lcpL_nil2 (z : List Int) : lcpL z [] = 0 := by cases z <;> rfl
theorem llt_nil (z : List Int) : llt z [] = false := by cases z <;> rfl
/-- what stands between two lists begins at least as they do -/
theorem lcpL_between : ∀ {x y z : List Int}, llt y x = false → llt y z = true → lcpL x z ≤ lcpL y z
  | [], _, z, _, _ => by unfold lcpL; split <;> first | exact Nat.zero_le _ | (rename_i h1 h2; simp at *)
  | a :: x, [], z, h, _ => by cases h
  | a :: x, b :: y, [], _, _ => by unfold lcpL; exact Nat.zero_le _
  | a :: x, b :: y, c :: z, h1, h2 => by
    simp only [llt, Bool.or_eq_false_iff, Bool.or_eq_true, Bool.and_eq_true, Bool.and_eq_false_iff, decide_eq_false_iff_not, decide_eq_true_eq] at h1 h2
    unfold lcpL
    by_cases hac : a = c
    · rw [if_pos hac]
      subst hac
      have hb : b = a := by
        rcases h2 with h2 | h2
        · omega
        · exact h2.1
      subst hb
      rw [if_pos rfl]
      have := @lcpL_between x y z (by rcases h1.2 with h | h; exact absurd rfl h; exact h) (by rcases h2 with h | h; omega; exact h.2)
      omega
    · rw [if_neg hac]; exact Nat.zero_le _
section
variable {p : List Int}
def lcp (p : List Int) (i j : Nat) : Nat := lcpL (p.drop i) (p.drop j)
theorem lcp_step {i j : Nat} (hi : i < p.length) (hj : j < p.length) : lcp p i j = if p.getD i 0 = p.getD j 0 then lcp p (i + 1) (j + 1) + 1 else 0 := by
  unfold lcp
  rw [List.drop_eq_getElem_cons hi, List.drop_eq_getElem_cons hj, List.getD_eq_getElem?_getD, List.getElem?_eq_getElem hi, List.getD_eq_getElem?_getD, List.getElem?_eq_getElem hj]
  rfl
theorem lcp_out {i j : Nat} (h : p.length ≤ i ∨ p.length ≤ j) : lcp p i j = 0 := by
  unfold lcp
  rcases h with h | h
  · rw [List.drop_of_length_le h, lcpL_nil1]
  · rw [List.drop_of_length_le h, lcpL_nil2]
theorem lcp_le {i j : Nat} : lcp p i j ≤ p.length - i := by
  have := lcpL_le1 (p.drop i) (p.drop j)
  rwa [List.length_drop] at this
/-- the walk along two ends: h is alike so far -/
theorem lcp_more {i j h : Nat} (hh : h ≤ lcp p i j) (hi : i + h < p.length) (hj : j + h < p.length) (he : p.getD (i + h) 0 = p.getD (j + h) 0) : h + 1 ≤ lcp p i j := by
  induction h generalizing i j with
  | zero =>
    rw [lcp_step (by omega) (by omega), if_pos (by simpa using he)]
    omega
  | succ h ih =>
    have hs := lcp_step (p := p) (show i < p.length by omega) (show j < p.length by omega)
    by_cases hq : p.getD i 0 = p.getD j 0
    · rw [if_pos hq] at hs
      have := ih (i := i + 1) (j := j + 1) (by omega) (by omega) (by omega) (by rw [show i + 1 + h = i + (h + 1) by omega, show j + 1 + h = j + (h + 1) by omega]; exact he)
      omega
    · rw [if_neg hq] at hs; omega
theorem lcp_end {i j h : Nat} (hh : h ≤ lcp p i j) (he : ¬ (i + h < p.length ∧ j + h < p.length ∧ p.getD (i + h) 0 = p.getD (j + h) 0)) : lcp p i j = h := by
  induction h generalizing i j with
  | zero =>
    by_cases hi : i < p.length
    · by_cases hj : j < p.length
      · rw [lcp_step hi hj, if_neg (fun e => he ⟨by omega, by omega, by simpa using e⟩)]
      · exact lcp_out (.inr (by omega))
    · exact lcp_out (.inl (by omega))
  | succ h ih =>
    by_cases hi : i < p.length
    · by_cases hj : j < p.length
      · have hs := lcp_step (p := p) hi hj
        by_cases hq : p.getD i 0 = p.getD j 0
        · rw [if_pos hq] at hs
          have := ih (i := i + 1) (j := j + 1) (by omega) (by rw [show i + 1 + h = i + (h + 1) by omega, show j + 1 + h = j + (h + 1) by omega]; exact he)
          omega
        · rw [if_neg hq] at hs; omega
      · rw [lcp_out (.inr (by omega))] at hh; omega
    · rw [lcp_out (.inl (by omega))] at hh; omega
/-- what the end at place j shares with the one before it -/
def near (p : List Int) (l : List Nat) (j : Nat) : Nat := if j = 0 then 0 else lcp p (l.getD (j - 1) 0) (l.getD j 0)
/-- from one end to the next, it grows less by at most one -/
theorem near_next {l : List Nat} (hs : IsSuf p l) {i j j' : Nat} (hj : j < p.length) (hj' : j' < p.length) (hi : l.getD j 0 = i) (hi' : l.getD j' 0 = i + 1) (h1 : i + 1 < p.length) : near p l j ≤ near p l j' + 1 := by
  have hl : l.length = p.length := by rw [hs.1.length_eq, List.length_range]
  unfold near
  by_cases hj0 : j = 0
  · rw [if_pos hj0]; omega
  · rw [if_neg hj0]
    have hk := perm_lt hs.1 (show j - 1 < p.length by omega)
    have hlt := hs.2 (j - 1) j (by omega) (by omega)
    rw [hi] at hlt ⊢
    generalize l.getD (j - 1) 0 = k at hk hlt ⊢
    have st := lcp_step (p := p) hk (show i < p.length by omega)
    by_cases hq : p.getD k 0 = p.getD i 0
    · rw [if_pos hq] at st
      by_cases hk1 : k + 1 < p.length
      · rw [llt_drop_eq hk (by omega) hq] at hlt
        -- k + 1 stands before i + 1
        obtain ⟨a, ha, hka⟩ := perm_at hs.1 hk1
        have haj : a < j' := by
          rcases Nat.lt_or_ge a j' with q | q
          · exact q
          · rcases Nat.lt_or_ge j' a with q2 | q2
            · have := hs.2 j' a q2 (by omega)
              rw [hi', hka, llt_asymm hlt] at this
              cases this
            · obtain rfl : a = j' := by omega
              rw [hi'] at hka
              have : k = i := by omega
              subst this
              rw [llt_irrefl] at hlt; cases hlt
        rw [if_neg (by omega), hi']
        have hb : llt (p.drop (l.getD (j' - 1) 0)) (p.drop (k + 1)) = false := by
          rcases Nat.lt_or_ge a (j' - 1) with q | q
          · have := hs.2 a (j' - 1) q (by omega)
            rw [hka] at this
            exact llt_asymm this
          · obtain rfl : a = j' - 1 := by omega
            rw [hka, llt_irrefl]
        have hc := hs.2 (j' - 1) j' (by omega) (by omega)
        rw [hi'] at hc
        have := lcpL_between hb hc
        unfold lcp at st ⊢
        omega
      · rw [lcp_out (p := p) (i := k + 1) (j := i + 1) (.inl (by omega))] at st; omega
    · rw [if_neg hq] at st; omega
theorem getDn_set_self {r : List Nat} {a x : Nat} (h : a < r.length) : (r.set a x).getD a 0 = x := by
  rw [List.getD_eq_getElem?_getD, List.getElem?_set_self h]; rfl
theorem getDn_set_other {r : List Nat} {a b x : Nat} (h : a ≠ b) : (r.set a x).getD b 0 = r.getD b 0 := by
  rw [List.getD_eq_getElem?_getD, List.getElem?_set_ne h, ← List.getD_eq_getElem?_getD]
/-- the places of the numbers in the row, one more laid -/
theorem pos_step {n k : Nat} {l : List Nat} {at_ : List Int} (hp : l.Perm (List.range n)) (hk : k < n) (hl : at_.length = n) (h : ∀ j, j < k → at_.getD (l.getD j 0) 0 = (j : Int)) :
    ∀ j, j < k + 1 → (at_.set (l.getD k 0) (k : Int)).getD (l.getD j 0) 0 = (j : Int) := by
  intro j hj
  rcases Nat.lt_or_ge j k with h1 | h1
  · rw [getD_set_other (fun e => by have := perm_inj hp hk (show j < n by omega) e; omega)]
    exact h j h1
  · obtain rfl : j = k := by omega
    rw [getD_set_self (by rw [hl]; exact perm_lt hp hk)]
theorem near_set {l r : List Nat} {i j h : Nat} (hp : l.Perm (List.range p.length)) (hj : j < p.length) (hr : r.length = p.length) (hji : l.getD j 0 = i) (hv : ∀ k, k < p.length → r.getD k 0 = if l.getD k 0 < i then near p l k else 0) (hh : near p l j = h) :
    ∀ k, k < p.length → (r.set j h).getD k 0 = if l.getD k 0 < i + 1 then near p l k else 0 := by
  intro k hk
  by_cases e : j = k
  · subst e
    rw [getDn_set_self (by omega), if_pos (by omega), hh]
  · rw [getDn_set_other e, hv k hk]
    have : l.getD k 0 ≠ i := fun e2 => e (perm_inj hp hj hk (by rw [hji, e2]))
    by_cases q : l.getD k 0 < i
    · rw [if_pos q, if_pos (by omega)]
    · rw [if_neg q, if_neg (by omega)]
theorem near_skip {l r : List Nat} {i j : Nat} (hp : l.Perm (List.range p.length)) (hj : j < p.length) (hji : l.getD j 0 = i) (hv : ∀ k, k < p.length → r.getD k 0 = if l.getD k 0 < i then near p l k else 0) (hh : near p l j = 0) :
    ∀ k, k < p.length → r.getD k 0 = if l.getD k 0 < i + 1 then near p l k else 0 := by
  intro k hk
  by_cases e : j = k
  · subst e
    rw [hv j hj, if_neg (by omega), if_pos (by omega), hh]
  · rw [hv k hk]
    have : l.getD k 0 ≠ i := fun e2 => e (perm_inj hp hj hk (by rw [hji, e2]))
    by_cases q : l.getD k 0 < i
    · rw [if_pos q, if_pos (by omega)]
    · rw [if_neg q, if_neg (by omega)]
def nears (p : List Int) (l : List Nat) : List Nat := (List.range p.length).map (near p l)
theorem near_all {l r : List Nat} (hp : l.Perm (List.range p.length)) (hr : r.length = p.length) (hv : ∀ k, k < p.length → r.getD k 0 = if l.getD k 0 < p.length then near p l k else 0) : r = nears p l := by
  apply List.ext_getElem?
  intro k
  unfold nears
  by_cases hk : k < p.length
  · have := hv k hk
    rw [if_pos (perm_lt hp hk), List.getD_eq_getElem?_getD, List.getElem?_eq_getElem (show k < r.length by omega)] at this
    rw [List.getElem?_eq_getElem (show k < r.length by omega), List.getElem?_map, List.getElem?_range hk]
    simpa using this
  · rw [List.getElem?_eq_none (by omega), List.getElem?_eq_none (by simp; omega)]
theorem nears_len (l : List Nat) : (nears p l).length = p.length := by simp [nears]
theorem nears_at {l : List Nat} {k : Nat} (hk : k < p.length) : (nears p l).getD k 0 = near p l k := by
  unfold nears
  rw [List.getD_eq_getElem?_getD, List.getElem?_map, List.getElem?_range hk]; rfl
theorem near_le {l : List Nat} {k : Nat} : near p l k ≤ p.length := by
  unfold near
  split
  · exact Nat.zero_le _
  · have := lcp_le (p := p) (i := l.getD (k - 1) 0) (j := l.getD k 0); omega
end
end Go.J
