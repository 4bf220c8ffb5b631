/-
  Orders by precedence rules: what the code and the reference compute, as plain functions on lists.
  Conditions: none.
-/
import Derived.Test.YtblnbjlcpleaaaaJP
namespace Go.J
open Go

structure Prec where
  kind : Int
  a : Str
  b : Str

def precR : Rp Prec where
  size := 3
  pos := by decide
  cells p := [iv p.kind, sv p.a, sv p.b]
  wf p := i64ok p.kind ∧ p.a.length ≤ 9223372036854775807 ∧ p.b.length ≤ 9223372036854775807
  len _ := rfl
  one _ u h := by simp at h; rcases h with rfl | rfl | rfl <;> rfl
instance (p : Prec) : Cel precR p [iv p.kind, sv p.a, sv p.b] := ⟨rfl⟩

def pairK (p : Prec) : Bool := decide (p.kind = 1) || decide (p.kind = 2)
/-- what is wrong with a rule; 0: nothing -/
def badRule (p : Prec) : Int :=
  if (!pairK p && !decide (p.kind = 3)) && !decide (p.kind = 4) then 4
  else if !isName p.a || (pairK p && !isName p.b) then 10
  else if !pairK p && !(p.b == []) then 5
  else 0
def vfFrom : Nat → List Prec → Int × Int
  | _, [] => (0, 0)
  | i, p :: ps => if badRule p = 0 then vfFrom (i + 1) ps else (badRule p, i)
/-- what Validate reports -/
def vfault (rules : List Prec) : Int × Int := if 300 < (rules.length : Int) then (2, -1) else vfFrom 0 rules

def nfFrom : Nat → List Str → Int × Int
  | _, [] => (0, 0)
  | i, s :: ss => if isName s then nfFrom (i + 1) ss else (10, i)
/-- the first error of rules and kinds -/
def chk (rules : List Prec) (kinds : List Str) : Int × Int :=
  if (vfault rules).1 ≠ 0 then vfault rules else if 7 < (kinds.length : Int) then (2, -2) else nfFrom 0 kinds

theorem vfFrom_step {rules : List Prec} {k : Nat} {p : Prec} (hp : rules[k]? = some p) : vfFrom k (rules.drop k) = if badRule p = 0 then vfFrom (k + 1) (rules.drop (k + 1)) else (badRule p, k) := by
  rw [drop_of_some hp]; rfl
theorem nfFrom_step {ks : List Str} {k : Nat} {s : Str} (hp : ks[k]? = some s) : nfFrom k (ks.drop k) = if isName s then nfFrom (k + 1) (ks.drop (k + 1)) else (10, k) := by
  rw [drop_of_some hp]; rfl
theorem vfFrom_end {rules : List Prec} {k : Nat} (h : rules.length ≤ k) : vfFrom k (rules.drop k) = (0, 0) := by rw [List.drop_of_length_le h]; rfl
theorem nfFrom_end {ks : List Str} {k : Nat} (h : ks.length ≤ k) : nfFrom k (ks.drop k) = (0, 0) := by rw [List.drop_of_length_le h]; rfl
theorem badRule_kind {p : Prec} (h : ¬ p.kind = 1 ∧ ¬ p.kind = 2 ∧ ¬ p.kind = 3 ∧ ¬ p.kind = 4) : badRule p = 4 := by
  simp [badRule, pairK, h.1, h.2.1, h.2.2.1, h.2.2.2]
theorem badRule_name {p : Prec} (h : p.kind = 1 ∨ p.kind = 2 ∨ p.kind = 3 ∨ p.kind = 4) (k : isName p.a = false ∨ ((p.kind = 1 ∨ p.kind = 2) ∧ isName p.b = false)) : badRule p = 10 := by
  unfold badRule
  rw [if_neg (by simp only [pairK, Bool.and_eq_true, Bool.not_eq_true', Bool.or_eq_false_iff, decide_eq_false_iff_not]; omega), if_pos (by
    simp only [pairK, Bool.or_eq_true, Bool.and_eq_true, Bool.not_eq_true', decide_eq_true_eq]; exact k)]
theorem badRule_rest {p : Prec} (h : p.kind = 1 ∨ p.kind = 2 ∨ p.kind = 3 ∨ p.kind = 4) (k1 : isName p.a = true) (k2 : (p.kind = 1 ∨ p.kind = 2) → isName p.b = true) : badRule p = if ¬ (p.kind = 1 ∨ p.kind = 2) ∧ ¬ p.b = [] then 5 else 0 := by
  unfold badRule
  have h1 : ¬ (((!pairK p && !decide (p.kind = 3)) && !decide (p.kind = 4)) = true) := by
    simp only [pairK, Bool.and_eq_true, Bool.not_eq_true', Bool.or_eq_false_iff, decide_eq_false_iff_not]; omega
  have h2 : ¬ ((!isName p.a || (pairK p && !isName p.b)) = true) := by
    simp only [k1, pairK, Bool.not_true, Bool.false_or, Bool.and_eq_true, Bool.or_eq_true, decide_eq_true_eq, Bool.not_eq_true']
    rintro ⟨h3, h4⟩
    rw [k2 h3] at h4; cases h4
  rw [if_neg h1, if_neg h2]
  by_cases h3 : p.kind = 1 ∨ p.kind = 2
  · have : pairK p = true := by simp only [pairK, Bool.or_eq_true, decide_eq_true_eq]; exact h3
    simp [this, h3]
  · have : pairK p = false := by simp only [pairK, Bool.or_eq_false_iff, decide_eq_false_iff_not]; omega
    simp [this, h3]
theorem vfault_big {rules : List Prec} (h : 300 < (rules.length : Int)) : vfault rules = (2, -1) := by simp only [vfault, if_pos h]
theorem vfault_from {rules : List Prec} (h : (rules.length : Int) ≤ 300) : vfault rules = vfFrom 0 (rules.drop 0) := by simp only [vfault, if_neg (Int.not_lt.2 h), List.drop_zero]
theorem vf_bad {rules : List Prec} {k : Nat} {p : Prec} {e : Int} (hv : vfault rules = vfFrom k (rules.drop k)) (hp : rules[k]? = some p) (hb : badRule p = e) (he : e ≠ 0) : vfault rules = (e, (k : Int)) := by
  rw [hv, vfFrom_step hp, if_neg (by rw [hb]; exact he), hb]
theorem vf_good {rules : List Prec} {k : Nat} {p : Prec} (hv : vfault rules = vfFrom k (rules.drop k)) (hp : rules[k]? = some p) (hb : badRule p = 0) : vfault rules = vfFrom (k + 1) (rules.drop (k + 1)) := by
  rw [hv, vfFrom_step hp, if_pos hb]
theorem vf_end {rules : List Prec} {k : Nat} (hv : vfault rules = vfFrom k (rules.drop k)) (h : rules.length ≤ k) : vfault rules = (0, 0) := by rw [hv, vfFrom_end h]
theorem chk_bad {rules : List Prec} {ks : List Str} (h : (vfault rules).1 ≠ 0) : chk rules ks = vfault rules := by simp only [chk, if_pos h]
theorem chk_many {rules : List Prec} {ks : List Str} (h : (vfault rules).1 = 0) (h2 : 7 < (ks.length : Int)) : chk rules ks = (2, -2) := by simp [chk, h, h2]
theorem chk_from {rules : List Prec} {ks : List Str} (h : (vfault rules).1 = 0) (h2 : (ks.length : Int) ≤ 7) : chk rules ks = nfFrom 0 (ks.drop 0) := by simp [chk, h, Int.not_lt.2 h2]
theorem nf_bad {f : Int × Int} {ks : List Str} {k : Nat} {s : Str} (hv : f = nfFrom k (ks.drop k)) (hp : ks[k]? = some s) (hb : isName s = false) : f = (10, (k : Int)) := by
  rw [hv, nfFrom_step hp, hb]; rfl
theorem nf_good {f : Int × Int} {ks : List Str} {k : Nat} {s : Str} (hv : f = nfFrom k (ks.drop k)) (hp : ks[k]? = some s) (hb : isName s = true) : f = nfFrom (k + 1) (ks.drop (k + 1)) := by
  rw [hv, nfFrom_step hp, hb]; rfl
theorem nf_end {f : Int × Int} {ks : List Str} {k : Nat} (hv : f = nfFrom k (ks.drop k)) (h : ks.length ≤ k) : f = (0, 0) := by rw [hv, nfFrom_end h]
end Go.J
