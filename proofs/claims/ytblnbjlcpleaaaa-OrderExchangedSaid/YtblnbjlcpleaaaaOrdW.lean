/-
  Rows of kinds: each results from equally many orders, namely from all waysS to number elements of the same kind.
  Conditions: none.
-/
import Derived.Test.YtblnbjlcpleaaaaOrdN
namespace Go.J
open Go
def waysS : List Str → Nat
  | [] => 1
  | x :: l => (l.count x + 1) * waysS l
theorem ways_perm {a b : List Str} (h : a.Perm b) : waysS a = waysS b := by
  induction h with
  | nil => rfl
  | cons x h ih => rw [waysS, waysS, ih, h.count_eq]
  | swap x y l =>
    rw [waysS, waysS, waysS, waysS, List.count_cons, List.count_cons]
    by_cases e : x = y
    · subst e; rfl
    · rw [if_neg (by simpa using e), if_neg (by simpa using fun h : y = x => e h.symm), Nat.add_zero, Nat.add_zero, Nat.mul_left_comm]
  | trans _ _ h1 h2 => rw [h1, h2]
theorem sum_if (k : Int → Str) (x0 : Str) (c : Nat) : ∀ T : List Int, (T.map fun x => if k x = x0 then c else 0).sum = (T.map k).count x0 * c
  | [] => by simp
  | x :: T => by
    rw [List.map_cons, List.sum_cons, sum_if k x0 c T, List.map_cons, List.count_cons]
    by_cases e : k x = x0
    · rw [if_pos e, if_pos (by simpa using e), Nat.add_mul, Nat.one_mul, Nat.add_comm]
    · rw [if_neg e, if_neg (by simpa using e), Nat.zero_add, Nat.add_zero]
theorem permsF_rows (k : Int → Str) : ∀ (m : Nat) (S : List Int) (r : List Str), S.length = m → (S.map k).Perm r → ((permsF m S).countP fun l => decide (l.map k = r)) = waysS r
  | 0, S, r, hS, hp => by
    obtain rfl := List.eq_nil_of_length_eq_zero hS
    obtain rfl : r = [] := by
      have := hp.length_eq; exact List.eq_nil_of_length_eq_zero (by simpa using this.symm)
    simp [permsF, waysS]
  | m + 1, S, [], hS, hp => by have := hp.length_eq; rw [List.length_map, hS] at this; cases this
  | m + 1, S, x0 :: r, hS, hp => by
    rw [permsF, List.countP_flatMap]
    have key : ∀ x ∈ S, (List.countP (fun l => decide (l.map k = x0 :: r)) ∘ fun x => (permsF m (S.erase x)).map (x :: ·)) x = if k x = x0 then waysS r else 0 := by
      intro x hx
      rw [Function.comp_apply, List.countP_map]
      by_cases e : k x = x0
      · rw [if_pos e]
        have hp' : ((S.erase x).map k).Perm r := by
          have h2 := ((List.perm_cons_erase hx).map k).symm.trans hp
          rw [List.map_cons, e] at h2
          exact h2.cons_inv
        rw [← permsF_rows k m (S.erase x) r (by rw [List.length_erase_of_mem hx]; omega) hp']
        apply List.countP_congr
        intro l _
        simp [e]
      · rw [if_neg e, List.countP_eq_zero]
        intro l _
        simp [e]
    rw [List.map_congr_left key, sum_if, hp.count_eq, List.count_cons_self]
    rfl
theorem permsF_perm : ∀ (m : Nat) (S x : List Int), S.length = m → x ∈ permsF m S → x.Perm S
  | 0, S, x, hS, h => by
    obtain rfl := List.eq_nil_of_length_eq_zero hS
    simp only [permsF, List.mem_singleton] at h
    rw [h]
  | m + 1, S, x, hS, h => by
    simp only [permsF, List.mem_flatMap, List.mem_map] at h
    obtain ⟨y, hy, t, ht, rfl⟩ := h
    exact ((permsF_perm m (S.erase y) t (by rw [List.length_erase_of_mem hy]; omega) ht).cons y).trans (List.perm_cons_erase hy).symm
theorem len_rows {α : Type} (f : α → List Str) (c : Nat) : ∀ (R : List (List Str)) (L : List α), R.Nodup → (∀ x ∈ L, f x ∈ R) → (∀ r ∈ R, (L.countP fun x => decide (f x = r)) = c) → L.length = R.length * c
  | [], L, _, h, _ => by
    cases L with
    | nil => simp
    | cons x L => exact absurd (h x (List.mem_cons_self ..)) (by simp)
  | r :: R, L, hn, h, hc => by
    have h0 := hc r (List.mem_cons_self ..)
    have hn' := List.nodup_cons.1 hn
    have ih := len_rows f c R (L.filter fun x => !decide (f x = r)) hn'.2 (fun x hx => by
      obtain ⟨h1, h2⟩ := List.mem_filter.1 hx
      rcases List.mem_cons.1 (h x h1) with h3 | h3
      · rw [decide_eq_true h3] at h2; cases h2
      · exact h3) (fun r' hr' => by
      rw [List.countP_filter, ← hc r' (List.mem_cons_of_mem _ hr')]
      apply List.countP_congr
      intro x _
      have hne : r' ≠ r := fun e => hn'.1 (e ▸ hr')
      simp only [Bool.and_eq_true, decide_eq_true_eq, Bool.not_eq_true', decide_eq_false_iff_not]
      exact ⟨fun q => q.1, fun q => ⟨q, fun e => hne (by rw [← q, e])⟩⟩)
    have h1 := List.length_eq_countP_add_countP (fun x => decide (f x = r)) (l := L)
    rw [h0] at h1
    rw [← List.countP_eq_length_filter] at ih
    have h2 : List.countP (fun a => decide ¬decide (f a = r) = true) L = List.countP (fun x => !decide (f x = r)) L := by
      apply List.countP_congr; intro x _; simp
    rw [h1, h2, ih, List.length_cons, Nat.add_mul, Nat.one_mul, Nat.add_comm]
end Go.J
namespace Go.Proofs.Ytblnbjlcpleaaaa
open Go Go.J
theorem iota_row (ks : List Str) : rowOf ks (iota ks.length) = ks := by
  unfold rowOf iota
  rw [List.map_map]
  apply List.ext_getElem
  · simp
  · intro i h1 h2
    simp [List.getD_eq_getElem?_getD, List.getElem?_eq_getElem h2]
theorem good_rows {rules : List Prec} {ks : List Str} {y : List Int} (hy : y ∈ good rules ks) : ((good rules ks).countP fun x => decide (rowOf ks x = rowOf ks y)) = waysS ks := by
  have hok := (good_ok hy).2.2.2
  have hy2 : y ∈ permsF ks.length (iota ks.length) := by
    unfold good at hy
    rw [leaves_iota] at hy
    exact (List.mem_filter.1 hy).1
  have hp := permsF_perm _ _ _ (iota_len _) hy2
  have hp2 : (rowOf ks (iota ks.length)).Perm (rowOf ks y) := (hp.map _).symm
  unfold good
  rw [leaves_iota, List.countP_filter]
  have e : List.countP (fun a => decide (rowOf ks a = rowOf ks y) && okO rules ks a) (permsF ks.length (iota ks.length)) = List.countP (fun a => decide (a.map (fun i => ks.getD i.toNat []) = rowOf ks y)) (permsF ks.length (iota ks.length)) := by
    apply List.countP_congr
    intro x _
    simp only [Bool.and_eq_true, decide_eq_true_eq]
    constructor
    · exact fun q => q.1
    · intro q
      refine ⟨q, ?_⟩
      unfold okO at hok ⊢
      have q' : rowOf ks x = rowOf ks y := q
      rw [q']
      exact hok
  rw [e, permsF_rows _ _ _ _ (iota_len _) hp2, ← ways_perm hp2, iota_row]
theorem ways_step {ks : List Str} {i : Nat} {x : Str} (hx : ks[i]? = some x) : waysS (ks.take (i + 1)).reverse = ((ks.take i).count x + 1) * waysS (ks.take i).reverse := by
  rw [take_of_some hx, List.reverse_append, List.reverse_singleton, List.singleton_append, waysS, List.count_reverse]
theorem ways_end {ks : List Str} {i : Nat} (h : ks.length ≤ i) : waysS (ks.take i).reverse = waysS ks := by
  rw [List.take_of_length_le h]
  exact ways_perm (List.reverse_perm ks)
end Go.Proofs.Ytblnbjlcpleaaaa
