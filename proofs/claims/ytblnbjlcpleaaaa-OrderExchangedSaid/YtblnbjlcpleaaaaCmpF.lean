/-
  Striking neighbours that are alike: plain facts, no program stands here.
  Conditions: none.
-/
import Derived.Test.YtblnbjlcpleaaaaStrO
namespace Go.J
open Go
section
variable (e : Nat → Nat → Bool)
def dda : Nat → List Nat → List Nat
  | _, [] => []
  | p, x :: l => if e x p then dda x l else x :: dda x l
def dd : List Nat → List Nat
  | [] => []
  | x :: l => x :: dda e x l
theorem dda_snoc (x : Nat) : ∀ (l : List Nat) (p : Nat), dda e p (l ++ [x]) = if e x (l.getLastD p) then dda e p l else dda e p l ++ [x]
  | [], p => by simp [dda]
  | y :: l, p => by
    rw [List.cons_append, dda, dda, dda_snoc x l y]
    have h : (y :: l).getLastD p = l.getLastD y := by cases l <;> rfl
    rw [h]
    by_cases h1 : e y p = true
    · rw [if_pos h1, if_pos h1]
    · rw [if_neg h1, if_neg h1]
      split <;> rfl
theorem dd_step {l : List Nat} {j : Nat} (h0 : 0 < j) (hj : j < l.length) : dd e (l.take (j + 1)) = if e (l.getD j 0) (l.getD (j - 1) 0) then dd e (l.take j) else dd e (l.take j) ++ [l.getD j 0] := by
  have hx : l[j]? = some (l.getD j 0) := by rw [List.getD_eq_getElem?_getD, List.getElem?_eq_getElem hj]; rfl
  have hy : l[j - 1]? = some (l.getD (j - 1) 0) := by rw [List.getD_eq_getElem?_getD, List.getElem?_eq_getElem (show j - 1 < l.length by omega)]; rfl
  rw [take_of_some hx]
  cases l with
  | nil => simp at hj
  | cons a l =>
    obtain ⟨i, rfl⟩ : ∃ i, j = i + 1 := ⟨j - 1, by omega⟩
    rw [List.take_succ_cons, List.cons_append, dd, dd, dda_snoc]
    have hl : (l.take i).getLastD a = (a :: l).getD (i + 1 - 1) 0 := by
      rw [Nat.add_sub_cancel]
      cases i with
      | zero => simp
      | succ i =>
        simp only [List.length_cons] at hj
        have hz : l[i]? = some (l.getD i 0) := by rw [List.getD_eq_getElem?_getD, List.getElem?_eq_getElem (show i < l.length by omega)]; rfl
        rw [take_of_some hz]
        simp [List.getLastD_eq_getLast?]
    rw [hl]
    split <;> rfl
theorem dd_len : ∀ (l : List Nat), (dd e l).length ≤ l.length
  | [] => Nat.le_refl _
  | x :: l => by
    have : ∀ (l : List Nat) (p : Nat), (dda e p l).length ≤ l.length := by
      intro l
      induction l with
      | nil => intro p; exact Nat.le_refl _
      | cons y l ih => intro p; rw [dda]; split <;> simp only [List.length_cons] <;> have := ih y <;> omega
    rw [dd, List.length_cons, List.length_cons]
    have := this l x
    omega
/-- none of the first k has the one before it alike -/
theorem dd_none {l : List Nat} : ∀ k, k ≤ l.length → (∀ j, 0 < j → j < k → e (l.getD j 0) (l.getD (j - 1) 0) = false) → dd e (l.take k) = l.take k
  | 0, _, _ => by simp [dd]
  | 1, h, _ => by cases l with
    | nil => simp [dd]
    | cons x l => simp [dd, dda]
  | k + 2, h, hj => by
    rw [dd_step e (by omega) (by omega), if_neg (by rw [hj (k + 1) (by omega) (by omega)]; decide), dd_none (k + 1) (by omega) (fun j h1 h2 => hj j h1 (by omega))]
    have hx : l[k + 1]? = some (l.getD (k + 1) 0) := by rw [List.getD_eq_getElem?_getD, List.getElem?_eq_getElem (show k + 1 < l.length by omega)]; rfl
    exact (take_of_some hx).symm
/-- the row while it is being struck: the first j are through, k of them left -/
structure CF (l : List Nat) (j k : Nat) (W : List Nat) : Prop where
  len : W.length = l.length
  kj : k < j
  jl : j ≤ l.length
  num : k = (dd e (l.take j)).length
  out : W.take k = dd e (l.take j)
  rest : ∀ i, j ≤ i + 1 → W.getD i 0 = l.getD i 0
theorem CF.start {l : List Nat} {k : Nat} (h0 : 0 < k) (hk : k < l.length) (hn : ∀ j, 0 < j → j < k → e (l.getD j 0) (l.getD (j - 1) 0) = false) (he : e (l.getD k 0) (l.getD (k - 1) 0) = true) : CF e l (k + 1) k l := by
  have h1 := dd_none e k (by omega) hn
  have h2 : dd e (l.take (k + 1)) = l.take k := by rw [dd_step e h0 hk, if_pos he, h1]
  exact ⟨rfl, by omega, by omega, by rw [h2, List.length_take]; omega, h2.symm, fun i _ => rfl⟩
theorem CF.skip {l W : List Nat} {j k : Nat} (h : CF e l j k W) (hj : j < l.length) (he : e (l.getD j 0) (l.getD (j - 1) 0) = true) : CF e l (j + 1) k W := by
  have h2 : dd e (l.take (j + 1)) = dd e (l.take j) := by rw [dd_step e (by have := h.kj; omega) hj, if_pos he]
  exact ⟨h.len, by have := h.kj; omega, by omega, by rw [h2]; exact h.num, by rw [h2]; exact h.out, fun i hi => h.rest i (by omega)⟩
theorem CF.keep {l W : List Nat} {j k : Nat} (h : CF e l j k W) (hj : j < l.length) (he : e (l.getD j 0) (l.getD (j - 1) 0) = false) : CF e l (j + 1) (k + 1) (W.set k (l.getD j 0)) := by
  have hkj := h.kj
  have h2 : dd e (l.take (j + 1)) = dd e (l.take j) ++ [l.getD j 0] := by rw [dd_step e (by omega) hj, if_neg (by rw [he]; decide)]
  have hl := h.len
  refine ⟨by rw [List.length_set, h.len], by omega, by omega, by rw [h2, List.length_append, ← h.num]; rfl, ?_, fun i hi => ?_⟩
  · rw [h2, ← h.out]
    have hx : (W.set k (l.getD j 0))[k]? = some (l.getD j 0) := by rw [List.getElem?_set_self (by omega)]
    rw [take_of_some hx, List.take_set_of_le (Nat.le_refl _)]
  · rw [← h.rest i (by omega)]
    rw [List.getD_eq_getElem?_getD, List.getElem?_set_ne (by omega), ← List.getD_eq_getElem?_getD]
end
section
variable (f : Nat → List Str)
def eqf (i j : Nat) : Bool := decide (f i = f j)
theorem dda_inc : ∀ (l : List Nat) (p : Nat), (∀ x ∈ l, wlt (f x) (f p) = false) → l.Pairwise (fun a b => wlt (f b) (f a) = false) → (∀ x ∈ dda (eqf f) p l, wlt (f p) (f x) = true) ∧ (dda (eqf f) p l).Pairwise (fun a b => wlt (f a) (f b) = true) ∧ (∀ x ∈ l, f x = f p ∨ ∃ y ∈ dda (eqf f) p l, f y = f x)
  | [], p, _, _ => ⟨(fun x hx => by cases hx), List.Pairwise.nil, (fun x hx => by cases hx)⟩
  | y :: l, p, h, hs => by
    have hs' := List.pairwise_cons.1 hs
    obtain ⟨i1, i2, i3⟩ := dda_inc l y hs'.1 hs'.2
    have hy := h y (List.mem_cons_self ..)
    rw [dda]
    by_cases e : f y = f p
    · rw [if_pos (show eqf f y p = true from decide_eq_true e)]
      rw [← e]
      refine ⟨i1, i2, fun x hx => ?_⟩
      rcases List.mem_cons.1 hx with rfl | hx
      · exact .inl rfl
      · exact i3 x hx
    · rw [if_neg (show ¬ eqf f y p = true by unfold eqf; simpa using e)]
      have hlt : wlt (f p) (f y) = true := by
        rcases wlt_tri (f p) (f y) with q | q | q
        · exact q
        · exact absurd q.symm e
        · rw [hy] at q; cases q
      refine ⟨fun x hx => ?_, List.pairwise_cons.2 ⟨i1, i2⟩, fun x hx => ?_⟩
      · rcases List.mem_cons.1 hx with rfl | hx
        · exact hlt
        · exact wlt_trans hlt (i1 x hx)
      · rcases List.mem_cons.1 hx with rfl | hx
        · exact .inr ⟨x, List.mem_cons_self .., rfl⟩
        · rcases i3 x hx with q | ⟨z, hz, q⟩
          · exact .inr ⟨y, List.mem_cons_self .., q.symm⟩
          · exact .inr ⟨z, List.mem_cons_of_mem _ hz, q⟩
theorem dd_inc {l : List Nat} (hs : l.Pairwise (fun a b => wlt (f b) (f a) = false)) : (dd (eqf f) l).Pairwise (fun a b => wlt (f a) (f b) = true) ∧ (∀ x ∈ l, ∃ y ∈ dd (eqf f) l, f y = f x) := by
  cases l with
  | nil => exact ⟨.nil, fun x hx => by cases hx⟩
  | cons y l =>
    have hs' := List.pairwise_cons.1 hs
    obtain ⟨i1, i2, i3⟩ := dda_inc f l y hs'.1 hs'.2
    refine ⟨List.pairwise_cons.2 ⟨i1, i2⟩, fun x hx => ?_⟩
    rcases List.mem_cons.1 hx with rfl | hx
    · exact ⟨x, List.mem_cons_self .., rfl⟩
    · rcases i3 x hx with q | ⟨z, hz, q⟩
      · exact ⟨y, List.mem_cons_self .., q.symm⟩
      · exact ⟨z, List.mem_cons_of_mem _ hz, q⟩
theorem dda_sub (e : Nat → Nat → Bool) : ∀ (l : List Nat) (p x : Nat), x ∈ dda e p l → x ∈ l
  | [], _, _, h => h
  | y :: l, p, x, h => by
    rw [dda] at h
    split at h
    · exact List.mem_cons_of_mem _ (dda_sub e l y x h)
    · rcases List.mem_cons.1 h with rfl | h
      · exact List.mem_cons_self ..
      · exact List.mem_cons_of_mem _ (dda_sub e l y x h)
theorem dd_sub (e : Nat → Nat → Bool) {l : List Nat} {x : Nat} (h : x ∈ dd e l) : x ∈ l := by
  cases l with
  | nil => exact h
  | cons y l =>
    rcases List.mem_cons.1 h with rfl | h
    · exact List.mem_cons_self ..
    · exact List.mem_cons_of_mem _ (dda_sub e l y x h)
end
end Go.J
