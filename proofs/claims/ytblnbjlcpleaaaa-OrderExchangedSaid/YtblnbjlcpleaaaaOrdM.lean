/-
  Rules read backwards: a row that keeps a rule keeps, read backwards, the mirrored rule.
  Conditions: none.
-/
import Derived.Test.YtblnbjlcpleaaaaOrdV
namespace Go.Proofs.Ytblnbjlcpleaaaa
open Go Go.J

def mirrorP (p : Prec) : Option Prec := if p.kind = 2 then none else some (if p.kind = 1 then ⟨p.kind, p.b, p.a⟩ else if p.kind = 3 then ⟨4, p.a, p.b⟩ else if p.kind = 4 then ⟨3, p.a, p.b⟩ else p)
def mirrorL (rules : List Prec) : List Prec := rules.filterMap mirrorP
theorem mirrorL_none {rules : List Prec} {k : Nat} {p : Prec} (hp : rules[k]? = some p) (h : mirrorP p = none) : mirrorL (rules.take (k + 1)) = mirrorL (rules.take k) := by
  rw [take_of_some hp, mirrorL, List.filterMap_append]; simp [mirrorL, h]
theorem mirrorL_some {rules : List Prec} {k : Nat} {p q : Prec} (hp : rules[k]? = some p) (h : mirrorP p = some q) : mirrorL (rules.take (k + 1)) = mirrorL (rules.take k) ++ [q] := by
  rw [take_of_some hp, mirrorL, List.filterMap_append]; simp [mirrorL, h]
theorem mirrorL_len (rules : List Prec) : (mirrorL rules).length ≤ rules.length := List.length_filterMap_le _ _
theorem mirrorL_take (rules : List Prec) (k : Nat) : (mirrorL (rules.take k)).length ≤ k := Nat.le_trans (mirrorL_len _) (by simp; omega)

theorem keeps_all {p : Prec} {row : List Str} : keeps p row = true ↔ (∀ i k, i < row.length → k < row.length → i ≠ k → kp1 p row i k = false ∧ kp3 p row i k = false ∧ kp4 p row i k = false) ∧ ∀ i, i < row.length → kp2 p row i = false := by
  rw [keeps_iff]
  constructor
  · intro h
    refine ⟨fun i k hi hk hik => ?_, fun i hi => (h i hi).2⟩
    have := (h i hi).1 k hk
    simp only [okPair, Bool.or_eq_true, decide_eq_true_eq, Bool.and_eq_true, Bool.not_eq_true'] at this
    rcases this with h1 | h1
    · omega
    · exact h1
  · intro h i hi
    refine ⟨fun k hk => ?_, h.2 i hi⟩
    by_cases hik : i = k
    · simp [okPair, hik]
    · have := h.1 i k hi hk hik
      simp only [okPair, this.1, this.2.1, this.2.2, Bool.not_false, Bool.and_self, Bool.or_true]
theorem rev_getD {row : List Str} {i : Nat} (hi : i < row.length) : row.reverse.getD i [] = row.getD (row.length - 1 - i) [] := by
  simp only [List.getD_eq_getElem?_getD, List.getElem?_reverse hi]
theorem keeps_mirror {p q : Prec} {row : List Str} (h : mirrorP p = some q) (hk : keeps p row = true) : keeps q row.reverse = true := by
  unfold mirrorP at h
  split at h
  · cases h
  · rename_i h2
    obtain ⟨hk1, hk2⟩ := keeps_all.1 hk
    rw [keeps_all]
    simp only [Option.some.injEq] at h
    have key : ∀ i k, i < row.length → k < row.length → i ≠ k → row.length - 1 - i < row.length ∧ row.length - 1 - k < row.length ∧ row.length - 1 - k ≠ row.length - 1 - i := fun i k hi hk hik => by omega
    simp only [List.length_reverse]
    split at h
    · rename_i h1
      subst h
      refine ⟨fun i k hi hk hik => ⟨?_, by simp [kp3, h1], by simp [kp4, h1]⟩, fun i hi => by simp [kp2, h1]⟩
      have h3 := (hk1 (row.length - 1 - k) (row.length - 1 - i) (key i k hi hk hik).2.1 (key i k hi hk hik).1 (key i k hi hk hik).2.2).1
      simp only [kp1, rev_getD hi, rev_getD hk, h1, decide_true, Bool.true_and, Bool.and_eq_false_iff, decide_eq_false_iff_not] at h3 ⊢
      rcases h3 with (h3 | h3) | h3
      · left; right; exact h3
      · left; left; exact h3
      · right; omega
    · split at h
      · rename_i h1 h3
        subst h
        refine ⟨fun i k hi hk hik => ⟨by simp [kp1], by simp [kp3], ?_⟩, fun i hi => by simp [kp2]⟩
        have h4 := (hk1 (row.length - 1 - i) (row.length - 1 - k) (key i k hi hk hik).1 (key i k hi hk hik).2.1 (fun e => (key i k hi hk hik).2.2 e.symm)).2.1
        simp only [kp3, kp4, rev_getD hi, rev_getD hk, h3, decide_true, Bool.true_and, Bool.and_eq_false_iff, decide_eq_false_iff_not] at h4 ⊢
        rcases h4 with h4 | h4
        · left; exact h4
        · right; omega
      · split at h
        · rename_i h1 h3 h4
          subst h
          refine ⟨fun i k hi hk hik => ⟨by simp [kp1], ?_, by simp [kp4]⟩, fun i hi => by simp [kp2]⟩
          have h5 := (hk1 (row.length - 1 - i) (row.length - 1 - k) (key i k hi hk hik).1 (key i k hi hk hik).2.1 (fun e => (key i k hi hk hik).2.2 e.symm)).2.2
          simp only [kp3, kp4, rev_getD hi, rev_getD hk, h4, decide_true, Bool.true_and, Bool.and_eq_false_iff, decide_eq_false_iff_not] at h5 ⊢
          rcases h5 with h5 | h5
          · left; exact h5
          · right; omega
        · rename_i h1 h3 h4
          subst h
          exact ⟨fun i k hi hk hik => ⟨by simp [kp1, h1], by simp [kp3, h3], by simp [kp4, h4]⟩, fun i hi => by simp [kp2, h2]⟩

theorem vfFrom_iff : ∀ (rules : List Prec) (k : Nat), (vfFrom k rules).1 = 0 ↔ ∀ p ∈ rules, badRule p = 0
  | [], _ => by simp [vfFrom]
  | q :: rules, k => by
    simp only [vfFrom]
    split
    · rename_i h; rw [vfFrom_iff rules (k + 1)]; simp [h]
    · rename_i h; simp [h]
theorem vfault_iff (rules : List Prec) : (vfault rules).1 = 0 ↔ (rules.length : Int) ≤ 300 ∧ ∀ p ∈ rules, badRule p = 0 := by
  unfold vfault
  split
  · rename_i h
    refine ⟨fun h0 => ?_, fun h0 => ?_⟩
    · cases h0
    · omega
  · rename_i h; rw [vfFrom_iff]; exact ⟨fun h0 => ⟨by omega, h0⟩, fun h0 => h0.2⟩
theorem chk_iff (rules : List Prec) (ks : List Str) : (chk rules ks).1 = 0 ↔ (vfault rules).1 = 0 ∧ (ks.length : Int) ≤ 7 ∧ (nfFrom 0 ks).1 = 0 := by
  unfold chk
  split
  · rename_i h; exact ⟨fun h0 => absurd h0 h, fun h0 => absurd h0.1 h⟩
  · rename_i h
    have h := Classical.not_not.1 h
    split
    · rename_i h1
      refine ⟨fun h0 => ?_, fun h0 => ?_⟩
      · cases h0
      · omega
    · rename_i h1; exact ⟨fun h0 => ⟨h, by omega, h0⟩, fun h0 => h0.2.2⟩
theorem bad_mirror {p q : Prec} (h : mirrorP p = some q) (hb : badRule p = 0) : badRule q = 0 := by
  have hk := kindOk_of hb
  unfold mirrorP at h
  split at h
  · cases h
  · rename_i h2
    simp only [Option.some.injEq] at h
    rcases hk with hk | hk | hk | hk
    · rw [if_pos hk] at h
      subst h
      simp only [badRule, pairK, hk] at hb ⊢
      simp at hb ⊢
      exact ⟨hb.2, hb.1⟩
    · exact absurd hk h2
    · rw [if_neg (by omega), if_pos hk] at h
      subst h
      simp only [badRule, pairK, hk] at hb ⊢
      simpa using hb
    · rw [if_neg (by omega), if_neg (by omega), if_pos hk] at h
      subst h
      simp only [badRule, pairK, hk] at hb ⊢
      simpa using hb
theorem chk_mirror {rules : List Prec} {ks : List Str} (h : (chk rules ks).1 = 0) : (chk (mirrorL rules) ks).1 = 0 := by
  obtain ⟨h1, h2, h3⟩ := (chk_iff rules ks).1 h
  obtain ⟨h4, h5⟩ := (vfault_iff rules).1 h1
  refine (chk_iff _ ks).2 ⟨(vfault_iff _).2 ⟨by have := mirrorL_len rules; omega, fun q hq => ?_⟩, h2, h3⟩
  obtain ⟨p, hp, hpq⟩ := List.mem_filterMap.1 hq
  exact bad_mirror hpq (h5 p hp)
theorem mirror_allowed {rules : List Prec} {ks : List Str} {x : List Int} (hc : (chk rules ks).1 = 0) (hx : x ∈ good rules ks) : allowedOf (mirrorL rules) ks x.reverse = (true, -1, (0, 0)) := by
  obtain ⟨h1, h2, h3, h4⟩ := good_ok hx
  have hall : ∀ q ∈ mirrorL rules, keeps q (rowOf ks x.reverse) = true := fun q hq => by
    obtain ⟨p, hp, hpq⟩ := List.mem_filterMap.1 hq
    rw [show rowOf ks x.reverse = (rowOf ks x).reverse by simp [rowOf]]
    exact keeps_mirror hpq ((okO_iff rules ks x).1 h4 p hp)
  rw [allowedOf_valid (chk_mirror hc) (fun i hi => h1 i (List.mem_reverse.1 hi)) ((List.reverse_perm x).nodup_iff.2 h2) (by simpa using h3), (okO_iff _ _ _).2 hall, broken_none hall]
theorem mirror_wf {rules : List Prec} (h : ∀ p ∈ rules, precR.wf p) : ∀ p ∈ mirrorL rules, precR.wf p := fun q hq => by
  obtain ⟨p, hp, hpq⟩ := List.mem_filterMap.1 hq
  obtain ⟨h1, h2, h3⟩ := h p hp
  unfold mirrorP at hpq
  split at hpq
  · cases hpq
  · simp only [Option.some.injEq] at hpq
    split at hpq
    · subst hpq; exact ⟨h1, h3, h2⟩
    · split at hpq
      · subst hpq; exact ⟨show i64ok _ from ⟨by show (_ : Int) ≤ _; simp, by show (_ : Int) ≤ _; simp⟩, h2, h3⟩
      · split at hpq
        · subst hpq; exact ⟨show i64ok _ from ⟨by show (_ : Int) ≤ _; simp, by show (_ : Int) ≤ _; simp⟩, h2, h3⟩
        · subst hpq; exact ⟨h1, h2, h3⟩
theorem rev_snoc {x : List Int} {j : Nat} (h : j < x.length) : x.reverse.take (j + 1) = x.reverse.take j ++ [x.getD (x.length - 1 - j) 0] := by
  rw [take_of_some (show x.reverse[j]? = some (x.getD (x.length - 1 - j) 0) by rw [List.getElem?_reverse h]; exact some_getD 0 (by omega))]
end Go.Proofs.Ytblnbjlcpleaaaa
