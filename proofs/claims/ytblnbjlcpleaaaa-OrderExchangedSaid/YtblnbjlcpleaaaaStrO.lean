/-
  Strings in their order, and lists of strings in theirs: plain facts, no program stands here.
  Conditions: none.
-/
import Derived.Test.YtblnbjlcpleaaaaJP
namespace Go.J
open Go
theorem slt_irrefl : ∀ a : Str, Op.bytesLess a a = false
  | [] => rfl
  | x :: a => by simp [Op.bytesLess, slt_irrefl a]
theorem slt_trans : ∀ {a b c : Str}, Op.bytesLess a b = true → Op.bytesLess b c = true → Op.bytesLess a c = true
  | _, _, [], _, h => by cases ‹Str› <;> simp [Op.bytesLess] at h
  | [], _, _ :: _, _, _ => rfl
  | _ :: _, [], _ :: _, h, _ => by simp [Op.bytesLess] at h
  | x :: a, y :: b, z :: c, h, k => by
    simp only [Op.bytesLess, Bool.or_eq_true, decide_eq_true_eq, Bool.and_eq_true, beq_iff_eq] at h k ⊢
    rcases h with h | ⟨rfl, h⟩ <;> rcases k with k | ⟨rfl, k⟩
    · exact .inl (UInt8.lt_trans h k)
    · exact .inl h
    · exact .inl k
    · exact .inr ⟨rfl, slt_trans h k⟩
theorem slt_tri : ∀ a b : Str, Op.bytesLess a b = true ∨ a = b ∨ Op.bytesLess b a = true
  | [], [] => .inr (.inl rfl)
  | [], _ :: _ => .inl rfl
  | _ :: _, [] => .inr (.inr rfl)
  | x :: a, y :: b => by
    simp only [Op.bytesLess, Bool.or_eq_true, decide_eq_true_eq, Bool.and_eq_true, beq_iff_eq, List.cons.injEq]
    rcases Nat.lt_trichotomy x.toNat y.toNat with h | h | h
    · exact .inl (.inl h)
    · obtain rfl : x = y := UInt8.toNat_inj.1 h
      rcases slt_tri a b with q | q | q
      · exact .inl (.inr ⟨rfl, q⟩)
      · exact .inr (.inl ⟨rfl, q⟩)
      · exact .inr (.inr (.inr ⟨rfl, q⟩))
    · exact .inr (.inr (.inl h))
theorem slt_asymm {a b : Str} (h : Op.bytesLess a b = true) : Op.bytesLess b a = false := by
  cases k : Op.bytesLess b a with
  | false => rfl
  | true => have := slt_trans h k; rw [slt_irrefl] at this; cases this
theorem slt_ne {a b : Str} (h : Op.bytesLess a b = true) : a ≠ b := by rintro rfl; rw [slt_irrefl] at h; cases h
theorem sgt_iff {a b : Str} : (!(Op.bytesLess a b || a == b)) = Op.bytesLess b a := by
  rcases slt_tri a b with h | h | h
  · rw [h, slt_asymm h]; rfl
  · subst h; rw [slt_irrefl]; simp
  · rw [h, slt_asymm h, beq_false_of_ne (fun e => slt_ne h e.symm)]; rfl
def scmp (a b : Str) : Int := if Op.bytesLess a b then -1 else if Op.bytesLess b a then 1 else 0
theorem scmp_cases (a b : Str) : (Op.bytesLess a b = true ∧ scmp a b = -1) ∨ (a = b ∧ scmp a b = 0) ∨ (Op.bytesLess b a = true ∧ scmp a b = 1) := by
  unfold scmp
  rcases slt_tri a b with h | h | h
  · exact .inl ⟨h, if_pos h⟩
  · subst h; exact .inr (.inl ⟨rfl, by rw [slt_irrefl]; rfl⟩)
  · exact .inr (.inr ⟨h, by rw [slt_asymm h, h]; rfl⟩)
theorem scmp_zero {a b : Str} : scmp a b = 0 ↔ a = b := by
  rcases scmp_cases a b with ⟨h, e⟩ | ⟨h, e⟩ | ⟨h, e⟩ <;> rw [e]
  · exact ⟨fun q => absurd q (by decide), fun q => absurd q (slt_ne h)⟩
  · exact ⟨fun _ => h, fun _ => rfl⟩
  · exact ⟨fun q => absurd q (by decide), fun q => absurd q.symm (slt_ne h)⟩
theorem scmp_range (a b : Str) : -1 ≤ scmp a b ∧ scmp a b ≤ 1 := by
  rcases scmp_cases a b with ⟨_, e⟩ | ⟨_, e⟩ | ⟨_, e⟩ <;> rw [e] <;> decide
/-- lists of strings, one by one; the shorter one first -/
def wlt : List Str → List Str → Bool
  | _, [] => false
  | [], _ :: _ => true
  | x :: a, y :: b => Op.bytesLess x y || (x == y && wlt a b)
theorem wlt_irrefl : ∀ a : List Str, wlt a a = false
  | [] => rfl
  | x :: a => by simp [wlt, wlt_irrefl a, slt_irrefl]
theorem wlt_trans : ∀ {a b c : List Str}, wlt a b = true → wlt b c = true → wlt a c = true
  | _, _, [], _, h => by cases ‹List Str› <;> simp [wlt] at h
  | [], _, _ :: _, _, _ => rfl
  | _ :: _, [], _ :: _, h, _ => by simp [wlt] at h
  | x :: a, y :: b, z :: c, h, k => by
    simp only [wlt, Bool.or_eq_true, Bool.and_eq_true, beq_iff_eq] at h k ⊢
    rcases h with h | ⟨rfl, h⟩ <;> rcases k with k | ⟨rfl, k⟩
    · exact .inl (slt_trans h k)
    · exact .inl h
    · exact .inl k
    · exact .inr ⟨rfl, wlt_trans h k⟩
theorem wlt_tri : ∀ a b : List Str, wlt a b = true ∨ a = b ∨ wlt b a = true
  | [], [] => .inr (.inl rfl)
  | [], _ :: _ => .inl rfl
  | _ :: _, [] => .inr (.inr rfl)
  | x :: a, y :: b => by
    simp only [wlt, Bool.or_eq_true, Bool.and_eq_true, beq_iff_eq, List.cons.injEq]
    rcases slt_tri x y with h | rfl | h
    · exact .inl (.inl h)
    · rcases wlt_tri a b with q | q | q
      · exact .inl (.inr ⟨rfl, q⟩)
      · exact .inr (.inl ⟨rfl, q⟩)
      · exact .inr (.inr (.inr ⟨rfl, q⟩))
    · exact .inr (.inr (.inl h))
theorem wlt_asymm {a b : List Str} (h : wlt a b = true) : wlt b a = false := by
  cases k : wlt b a with
  | false => rfl
  | true => have := wlt_trans h k; rw [wlt_irrefl] at this; cases this
theorem wlt_ne {a b : List Str} (h : wlt a b = true) : a ≠ b := by rintro rfl; rw [wlt_irrefl] at h; cases h
/-- what slices.Compare computes -/
def wcmp : List Str → List Str → Int
  | [], [] => 0
  | [], _ :: _ => -1
  | _ :: _, [] => 1
  | x :: a, y :: b => if scmp x y ≠ 0 then scmp x y else wcmp a b
theorem wcmp_cases : ∀ a b : List Str, (wlt a b = true ∧ wcmp a b = -1) ∨ (a = b ∧ wcmp a b = 0) ∨ (wlt b a = true ∧ wcmp a b = 1)
  | [], [] => .inr (.inl ⟨rfl, rfl⟩)
  | [], _ :: _ => .inl ⟨rfl, rfl⟩
  | _ :: _, [] => .inr (.inr ⟨rfl, rfl⟩)
  | x :: a, y :: b => by
    simp only [wlt, wcmp, Bool.or_eq_true, Bool.and_eq_true, beq_iff_eq, List.cons.injEq]
    rcases scmp_cases x y with ⟨h, e⟩ | ⟨rfl, e⟩ | ⟨h, e⟩
    · exact .inl ⟨.inl h, by rw [if_pos (by omega), e]⟩
    · rw [if_neg (by omega)]
      rcases wcmp_cases a b with ⟨q, k⟩ | ⟨q, k⟩ | ⟨q, k⟩
      · exact .inl ⟨.inr ⟨rfl, q⟩, k⟩
      · exact .inr (.inl ⟨⟨rfl, q⟩, k⟩)
      · exact .inr (.inr ⟨.inr ⟨rfl, q⟩, k⟩)
    · exact .inr (.inr ⟨.inl h, by rw [if_pos (by omega), e]⟩)
theorem wcmp_lt {a b : List Str} : wcmp a b < 0 ↔ wlt a b = true := by
  rcases wcmp_cases a b with ⟨h, e⟩ | ⟨h, e⟩ | ⟨h, e⟩ <;> rw [e]
  · exact ⟨fun _ => h, fun _ => by decide⟩
  · subst h; rw [wlt_irrefl]; exact ⟨fun q => absurd q (by decide), fun q => by cases q⟩
  · rw [wlt_asymm h]; exact ⟨fun q => absurd q (by decide), fun q => by cases q⟩
theorem wcmp_drop {a b : List Str} {k : Nat} {x y : Str} (hx : a[k]? = some x) (hy : b[k]? = some y) : wcmp (a.drop k) (b.drop k) = if scmp x y ≠ 0 then scmp x y else wcmp (a.drop (k + 1)) (b.drop (k + 1)) := by
  rw [drop_of_some hx, drop_of_some hy]; rfl
theorem wcmp_end1 {a b : List Str} {k : Nat} {x : Str} (hx : a[k]? = some x) (hb : b.length ≤ k) : wcmp (a.drop k) (b.drop k) = 1 := by
  rw [drop_of_some hx, List.drop_of_length_le hb]; rfl
theorem wcmp_end2 {a b : List Str} {k : Nat} (ha : a.length ≤ k) (hb : k < b.length) : wcmp (a.drop k) (b.drop k) = -1 := by
  obtain ⟨y, hy⟩ := some_of_lt hb
  rw [drop_of_some hy, List.drop_of_length_le ha]; rfl
theorem wcmp_end0 {a b : List Str} {k : Nat} (ha : a.length ≤ k) (hb : b.length ≤ k) : wcmp (a.drop k) (b.drop k) = 0 := by
  rw [List.drop_of_length_le ha, List.drop_of_length_le hb]; rfl
/-- the sign of the difference of the lengths, where all before is alike -/
theorem wlt_len {a b : List Str} {k : Nat} (ha : a.length ≤ k ∨ b.length ≤ k) (hk : a.take k = b.take k) : wlt a b = decide (a.length < b.length) ∧ (a = b ↔ a.length = b.length) := by
  induction k generalizing a b with
  | zero =>
    cases a with
    | nil => cases b <;> simp [wlt]
    | cons x a => cases b with
      | nil => simp [wlt]
      | cons y b => simp at ha
  | succ k ih =>
    cases a with
    | nil => cases b <;> simp [wlt]
    | cons x a => cases b with
      | nil => simp [wlt]
      | cons y b =>
        simp only [List.take_succ_cons, List.cons.injEq] at hk
        obtain ⟨rfl, hk⟩ := hk
        simp only [List.length_cons] at ha
        have := ih (by omega) hk
        simp only [wlt, slt_irrefl, Bool.false_or, beq_self_eq_true, Bool.true_and, List.length_cons, List.cons.injEq, true_and, this.1]
        exact ⟨by simp, by rw [this.2]; omega⟩
theorem wlt_at {a b : List Str} {k : Nat} {x y : Str} (hx : a[k]? = some x) (hy : b[k]? = some y) (hk : a.take k = b.take k) (h : Op.bytesLess x y = true) : wlt a b = true := by
  induction k generalizing a b with
  | zero =>
    cases a with
    | nil => simp at hx
    | cons x' a => cases b with
      | nil => simp at hy
      | cons y' b => simp at hx hy; subst hx; subst hy; simp [wlt, h]
  | succ k ih =>
    cases a with
    | nil => simp at hx
    | cons x' a => cases b with
      | nil => simp at hy
      | cons y' b =>
        simp only [List.take_succ_cons, List.cons.injEq] at hk
        obtain ⟨rfl, hk⟩ := hk
        simp only [List.getElem?_cons_succ] at hx hy
        simp [wlt, slt_irrefl, ih hx hy hk]
end Go.J
