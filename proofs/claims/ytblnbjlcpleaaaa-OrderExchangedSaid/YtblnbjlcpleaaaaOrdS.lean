/-
  The walk over all orders hands on, one by one, the permutations that break no rule.
  Conditions: none.
-/
import Derived.Test.YtblnbjlcpleaaaaOrdR
namespace Go.J

/-- all ways to go on from l with m elements more, out of n -/
def leaves (n : Nat) : Nat → List Int → List (List Int)
  | 0, l => [l]
  | m + 1, l => (List.range n).flatMap fun (i : Nat) => if (l.any fun y => decide ((i : Int) = y)) then [] else leaves n m (l ++ [(i : Int)])
theorem leaves_prefix {n : Nat} : ∀ (m : Nat) (l x : List Int), x ∈ leaves n m l → ∃ t, x = l ++ t ∧ t.length = m
  | 0, l, x, h => by
    simp only [leaves, List.mem_singleton] at h
    exact ⟨[], by simp [h], rfl⟩
  | m + 1, l, x, h => by
    simp only [leaves, List.mem_flatMap] at h
    obtain ⟨i, _, hx⟩ := h
    split at hx
    · cases hx
    · obtain ⟨t, rfl, ht⟩ := leaves_prefix m _ _ hx
      exact ⟨(i : Int) :: t, by simp, by simp [ht]⟩
theorem flat_len {α β : Type} (f : α → List β) (b : Nat) : ∀ (l : List α), (∀ x, (f x).length ≤ b) → (l.flatMap f).length ≤ l.length * b
  | [], _ => by simp
  | x :: l, h => by
    have h1 := flat_len f b l h
    have h2 := h x
    simp only [List.flatMap_cons, List.length_append, List.length_cons, Nat.add_mul, Nat.one_mul]; omega
theorem leaves_len (n : Nat) : ∀ (m : Nat) (l : List Int), (leaves n m l).length ≤ n ^ m
  | 0, l => by simp [leaves]
  | m + 1, l => by
    have h := flat_len (fun (i : Nat) => if (l.any fun y => decide ((i : Int) = y)) then [] else leaves n m (l ++ [(i : Int)])) (n ^ m) (List.range n) (fun i => by
      split
      · exact Nat.zero_le _
      · exact leaves_len n m _)
    rw [List.length_range] at h
    rw [Nat.pow_succ, Nat.mul_comm]
    exact h

section
variable {σ : Type} (yb : σ → List Int → Bool) (yn : σ → List Int → σ)
def runW : List (List Int) → σ → Bool × σ
  | [], s => (true, s)
  | l :: ls, s => if yb s l then runW ls (yn s l) else (false, yn s l)
theorem runW_append : ∀ (a b : List (List Int)) (s : σ), runW yb yn (a ++ b) s = if (runW yb yn a s).1 then runW yb yn b (runW yb yn a s).2 else (false, (runW yb yn a s).2)
  | [], b, s => by simp [runW]
  | l :: a, b, s => by
    simp only [List.cons_append, runW]
    split
    · exact runW_append a b _
    · rfl
theorem runW_false : ∀ (a : List (List Int)) (s : σ), (runW yb yn a s).1 = false → runW yb yn a s = (false, (runW yb yn a s).2) := fun a s h => by
  generalize runW yb yn a s = r at h
  obtain ⟨x, y⟩ := r
  simp only at h; subst h; rfl
end

section
variable (rules : List Prec) (ks : List Str)
/-- an order that breaks no rule -/
def okO (l : List Int) : Bool := decide (brokenBy rules (rowOf ks l) < 0)
theorem okO_iff (l : List Int) : okO rules ks l = true ↔ ∀ p ∈ rules, keeps p (rowOf ks l) = true := by
  unfold okO brokenBy
  have h := ix_nonneg (fun p => !keeps p (rowOf ks l)) rules
  rcases ix_cases (fun p => !keeps p (rowOf ks l)) rules with ⟨h1, h2⟩ | ⟨k, x, h1, h2, h3, _⟩
  · rw [h1]
    simp only [decide_eq_true_eq]
    exact ⟨fun _ p hp => by simpa using h2 p hp, fun _ => by decide⟩
  · rw [h3]
    simp only [decide_eq_true_eq]
    constructor
    · intro h; omega
    · intro h
      have := h x (List.mem_of_getElem? h1)
      simp [this] at h2
theorem rowOf_append (l t : List Int) : rowOf ks (l ++ t) = rowOf ks l ++ rowOf ks t := by simp [rowOf]
theorem rowOf_getD (l : List Int) {j : Nat} (h : j < l.length) : (rowOf ks l).getD j [] = ks.getD (l.getD j 0).toNat [] := by
  simp only [rowOf, List.getD_eq_getElem?_getD, List.getElem?_map, List.getElem?_eq_getElem h, Option.map_some, Option.getD_some]
theorem getD_left {α : Type} {a b : List α} {j : Nat} {d : α} (h : j < a.length) : (a ++ b).getD j d = a.getD j d := by
  simp only [List.getD_eq_getElem?_getD, List.getElem?_append_left h]
theorem dead_not {l : List Int} (hne : 1 ≤ l.length) (h : deadB rules ks l = true) (t : List Int) : okO rules ks (l ++ t) = false := by
  simp only [deadB, List.any_eq_true] at h
  obtain ⟨p, hp, i, hi, hd⟩ := h
  obtain ⟨j, hj⟩ := List.getElem?_of_mem hi
  have hjl := lt_of_some hj
  rw [List.length_dropLast] at hjl
  have hji : l[j]? = some i := by
    rw [List.dropLast_eq_take, List.getElem?_take_of_lt hjl] at hj
    exact hj
  cases hb : okO rules ks (l ++ t) with
  | false => rfl
  | true =>
    exfalso
    have hk := (okO_iff rules ks (l ++ t)).1 hb p hp
    have hrl : (rowOf ks (l ++ t)).length = l.length + t.length := by rw [rowOf_length, List.length_append]
    have r1 : (rowOf ks (l ++ t)).getD j [] = ks.getD i.toNat [] := by
      rw [rowOf_append, getD_left (by rw [rowOf_length]; omega), rowOf_getD ks l (by omega), getD_of_some hji]
    have r2 : (rowOf ks (l ++ t)).getD (l.length - 1) [] = ks.getD (l.getD (l.length - 1) 0).toNat [] := by
      rw [rowOf_append, getD_left (by rw [rowOf_length]; omega), rowOf_getD ks l (by omega)]
    have hf : keeps p (rowOf ks (l ++ t)) = false := by
      refine keeps_false (i := l.length - 1) (by omega) (okAt_false1 (k := j) (by omega) (okPair_bad (by omega) ?_))
      simp only [deadAt, Bool.or_eq_true, Bool.and_eq_true, decide_eq_true_eq, beq_iff_eq, Bool.not_eq_true', beq_eq_false_iff_ne] at hd
      rcases hd with ⟨⟨h1, h2⟩, h3⟩ | ⟨⟨h1, h2⟩, h3⟩
      · left
        simp only [kp1, r1, r2, h1, h2, h3, decide_true, beq_self_eq_true, Bool.and_self, Bool.true_and, decide_eq_true_eq]
        omega
      · right; left
        simp only [kp3, r1, r2, h1, h3, decide_true, beq_self_eq_true, Bool.true_and, Bool.and_eq_true, decide_eq_true_eq, Bool.not_eq_true', beq_eq_false_iff_ne]
        exact ⟨h2, by omega⟩
    rw [hf] at hk; cases hk

variable {σ : Type} (yb : σ → List Int → Bool) (yn : σ → List Int → σ)
theorem loopW_eq (m : Nat) (l : List Int) (rec : List Int → σ → Bool × σ) (hrec : ∀ x s, rec x s = runW yb yn ((leaves ks.length m x).filter (okO rules ks)) s) : ∀ (is : List Nat) (s : σ),
    loopW rules ks rec l is s = runW yb yn ((is.flatMap fun (i : Nat) => if (l.any fun y => decide ((i : Int) = y)) then [] else leaves ks.length m (l ++ [(i : Int)])).filter (okO rules ks)) s
  | [], s => rfl
  | i :: is, s => by
    have ih := loopW_eq m l rec hrec is
    simp only [loopW, List.flatMap_cons, List.filter_append]
    cases ha : l.any fun y => decide ((i : Int) = y) with
    | true => simp only [Bool.true_or, if_true, List.filter_nil, List.nil_append]; exact ih s
    | false =>
      simp only [Bool.false_or, Bool.false_eq_true, if_false]
      cases hd : deadB rules ks (l ++ [(i : Int)]) with
      | true =>
        have e : (leaves ks.length m (l ++ [(i : Int)])).filter (okO rules ks) = [] := by
          rw [List.filter_eq_nil_iff]
          intro x hx
          obtain ⟨t, rfl, _⟩ := leaves_prefix m _ _ hx
          rw [dead_not rules ks (by simp) hd t]; simp
        rw [if_pos rfl, e, List.nil_append]
        exact ih s
      | false =>
        rw [if_neg (by simp), runW_append, ← hrec]
        split
        · exact ih _
        · rfl
theorem walkF_eq : ∀ (m : Nat) (l : List Int) (s : σ), walkF rules ks yb yn m l s = runW yb yn ((leaves ks.length m l).filter (okO rules ks)) s
  | 0, l, s => by
    simp only [walkF, leaves, List.filter_cons, List.filter_nil, okO, decide_eq_true_eq]
    by_cases h : brokenBy rules (rowOf ks l) < 0
    · rw [if_pos h, if_neg (by omega)]
      simp only [runW]
      cases yb s l <;> rfl
    · rw [if_neg h, if_pos (by omega)]; rfl
  | m + 1, l, s => loopW_eq rules ks yb yn m l _ (walkF_eq m) _ s

/-- the orders that break no rule, in increasing order -/
def good : List (List Int) := (leaves ks.length ks.length []).filter (okO rules ks)
theorem good_len : (good rules ks).length ≤ ks.length ^ ks.length := Nat.le_trans (List.length_filter_le _ _) (leaves_len _ _ _)
end

theorem runW_first : ∀ (L : List (List Int)), (runW (fun _ _ => false) (fun (_ : Option (List Int)) l => some l) L none).2 = L.head?
  | [] => rfl
  | _ :: _ => rfl
theorem runW_count : ∀ (L : List (List Int)) (s : Int), 0 ≤ s → s + L.length ≤ 9223372036854775807 → (runW (fun _ _ => true) (fun (s : Int) (_ : List Int) => Go.IntKind.i64.wrap (s + 1)) L s).2 = s + L.length
  | [], s, _, _ => by simp [runW]
  | l :: L, s, h0, h1 => by
    simp only [List.length_cons] at h1
    simp only [runW, if_true]
    rw [wrap_ok (by omega), runW_count L (s + 1) (by omega) (by omega)]
    simp only [List.length_cons]; omega
theorem runW_take (b : Nat) : ∀ (L s : List (List Int)), s.length ≤ b → (runW (fun (s : List (List Int)) (_ : List Int) => decide (((s.length + 1 : Nat) : Int) ≤ (b : Int))) (fun s l => s ++ [l]) L s).2 = s ++ L.take (b + 1 - s.length)
  | [], s, _ => by simp [runW]
  | l :: L, s, h => by
    simp only [runW]
    by_cases hb : s.length + 1 ≤ b
    · rw [if_pos (by simp only [decide_eq_true_eq]; omega), runW_take b L _ (by simp; omega)]
      rw [show b + 1 - s.length = (b + 1 - (s ++ [l]).length) + 1 by simp; omega, List.take_succ_cons]
      simp
    · rw [if_neg (by simp only [decide_eq_true_eq]; omega), show b + 1 - s.length = 0 + 1 by omega, List.take_succ_cons, List.take_zero]
end Go.J
