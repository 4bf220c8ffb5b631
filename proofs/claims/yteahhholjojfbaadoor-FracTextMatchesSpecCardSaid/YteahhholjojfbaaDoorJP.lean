/-
  Plain facts on lists, for the laws: no program stands here.
  Conditions: none.
-/
import Derived.Test.YteahhholjojfbaaDoorJ3
namespace Go.J
open Go

section
variable {α : Type}
theorem take_of_some' {s : List α} {k : Nat} {x : α} (h : s[k]? = some x) : s.take (k + 1) = s.take k ++ [x] := by
  obtain ⟨hl, rfl⟩ := List.getElem?_eq_some_iff.1 h
  exact List.take_succ_eq_append_getElem hl
theorem all_take_succ {p : α → Bool} {s : List α} {k : Nat} {d : α} (h : (s.take k).all p = true) (hk : p (s.getD k d) = true) : (s.take (k + 1)).all p = true := by
  by_cases hl : k < s.length
  · rw [List.take_succ_eq_append_getElem hl, List.all_append, h]
    rw [List.getD_eq_getElem?_getD, List.getElem?_eq_getElem hl] at hk
    simpa using hk
  · rw [List.take_of_length_le (by omega)]; rwa [List.take_of_length_le (by omega)] at h
theorem all_take_some {p : α → Bool} {s : List α} {k : Nat} {x : α} (h : (s.take k).all p = true) (hx : s[k]? = some x) (hk : p x = true) : (s.take (k + 1)).all p = true := by
  obtain ⟨hl, rfl⟩ := List.getElem?_eq_some_iff.1 hx
  rw [List.take_succ_eq_append_getElem hl, List.all_append, h]
  simpa using hk
theorem any_take_step {f : α → Bool} {s : List α} {k : Nat} {x : α} {b : Bool} (hx : s[k]? = some x) (h : f x = b) : (s.take (k + 1)).any f = ((s.take k).any f || b) := by
  rw [take_of_some' hx, List.any_append]; simp [h]
theorem any_take_t {f : α → Bool} {s : List α} {k : Nat} {x : α} (hx : s[k]? = some x) (h : f x = true) : (s.take (k + 1)).any f = true := by rw [any_take_step hx h, Bool.or_true]
theorem any_take_f {f : α → Bool} {s : List α} {k : Nat} {x : α} (hx : s[k]? = some x) (h : f x = false) : (s.take (k + 1)).any f = (s.take k).any f := by rw [any_take_step hx h, Bool.or_false]
theorem any_of_some {f : α → Bool} {s : List α} {k : Nat} {x : α} (hx : s[k]? = some x) (h : f x = true) : s.any f = true := List.any_eq_true.2 ⟨x, List.mem_of_getElem? hx, h⟩
theorem any_none {f : α → Bool} {s : List α} {k : Nat} (h : (s.take k).all (fun x => !f x) = true) (hk : s.length ≤ k) : s.any f = false := by
  rw [List.take_of_length_le hk] at h
  rw [List.any_eq_false]
  intro x hx
  have := List.all_eq_true.1 h x hx
  simpa using this
theorem all_false_of {p : α → Bool} {s : List α} {k : Nat} {d : α} (hk : k < s.length) (h : p (s.getD k d) = false) : s.all p = false := by
  rw [List.getD_eq_getElem?_getD, List.getElem?_eq_getElem hk] at h
  rw [List.all_eq_false]
  exact ⟨s[k], List.getElem_mem hk, by simpa using h⟩
theorem all_of_take {p : α → Bool} {s : List α} {k : Nat} (h : (s.take k).all p = true) (hk : s.length ≤ k) : s.all p = true := by rwa [List.take_of_length_le hk] at h
theorem some_of_lt {s : List α} {k : Nat} (h : k < s.length) : ∃ x, s[k]? = some x := ⟨_, List.getElem?_eq_getElem h⟩
theorem drop_of_some {s : List α} {k : Nat} {x : α} (h : s[k]? = some x) : s.drop k = x :: s.drop (k + 1) := by
  obtain ⟨hl, rfl⟩ := List.getElem?_eq_some_iff.1 h
  exact List.drop_eq_getElem_cons hl
theorem lt_of_some {s : List α} {k : Nat} {x : α} (h : s[k]? = some x) : k < s.length := (List.getElem?_eq_some_iff.1 h).1
theorem take_of_some {s : List α} {k : Nat} {x : α} (h : s[k]? = some x) : s.take (k + 1) = s.take k ++ [x] := by
  obtain ⟨hl, rfl⟩ := List.getElem?_eq_some_iff.1 h
  exact List.take_succ_eq_append_getElem hl
theorem getD_of_some {s : List α} {k : Nat} {x d : α} (h : s[k]? = some x) : s.getD k d = x := by rw [List.getD_eq_getElem?_getD, h]; rfl
end

theorem be {a b : Bool} (h : a = b) : ret1 [Value.bool a] = .bool b := by rw [h]; rfl
theorem ie {a b : Int} (h : a = b) : ret1 [iv a] = iv b := by rw [h]; rfl
theorem all_range_succ {f : Nat → Bool} {k : Nat} (h : (List.range k).all f = true) (hk : f k = true) : (List.range (k + 1)).all f = true := by
  rw [List.range_succ, List.all_append, h]; simp [hk]
theorem all_range_false {f : Nat → Bool} {k m : Nat} (hk : k < m) (h : f k = false) : (List.range m).all f = false := by
  rw [List.all_eq_false]; exact ⟨k, List.mem_range.2 hk, by simp [h]⟩
theorem all_range_iff {f : Nat → Bool} {m : Nat} : (List.range m).all f = true ↔ ∀ k, k < m → f k = true := by
  rw [List.all_eq_true]; exact ⟨fun h k hk => h k (List.mem_range.2 hk), fun h k hk => h k (List.mem_range.1 hk)⟩

/-- the first place where p holds, or -1 -/
def ix {β : Type} (p : β → Bool) (l : List β) : Int := match l.findIdx? p with | some i => (i : Int) | none => -1
theorem ix_found {β : Type} {p : β → Bool} {l : List β} {k : Nat} {x : β} (h : (l.take k).all (fun y => !p y) = true) (hx : l[k]? = some x) (hp : p x = true) : ix p l = k := by
  obtain ⟨hl, rfl⟩ := List.getElem?_eq_some_iff.1 hx
  have : l.findIdx? p = some k := by
    rw [List.findIdx?_eq_some_iff_getElem]
    refine ⟨hl, hp, fun j hj => ?_⟩
    rw [List.all_eq_true] at h
    have h1 := h l[j] (by rw [List.mem_take_iff_getElem]; exact ⟨j, by omega, rfl⟩)
    simpa using h1
  simp only [ix, this]
theorem ix_none {β : Type} {p : β → Bool} {l : List β} {k : Nat} (h : (l.take k).all (fun y => !p y) = true) (hk : l.length ≤ k) : ix p l = -1 := by
  rw [List.take_of_length_le hk, List.all_eq_true] at h
  have : l.findIdx? p = none := by
    rw [List.findIdx?_eq_none_iff]
    intro x hx
    simpa using h x hx
  simp only [ix, this]
theorem ix_cases {β : Type} (p : β → Bool) (l : List β) : (ix p l = -1 ∧ ∀ x ∈ l, p x = false) ∨ ∃ (k : Nat) (x : β), l[k]? = some x ∧ p x = true ∧ ix p l = k ∧ ∀ (j : Nat) (y : β), j < k → l[j]? = some y → p y = false := by
  unfold ix
  cases h : l.findIdx? p with
  | none => left; exact ⟨rfl, by simpa using List.findIdx?_eq_none_iff.1 h⟩
  | some k =>
    right
    obtain ⟨hl, hp, hj⟩ := List.findIdx?_eq_some_iff_getElem.1 h
    refine ⟨k, l[k], List.getElem?_eq_getElem hl, hp, rfl, fun j y hjk hy => ?_⟩
    obtain ⟨hl2, rfl⟩ := List.getElem?_eq_some_iff.1 hy
    simpa using hj j hjk
theorem ix_nonneg {β : Type} (p : β → Bool) (l : List β) : decide (0 ≤ ix p l) = l.any p := by
  rcases ix_cases p l with ⟨h1, h2⟩ | ⟨k, x, h1, h2, h3, _⟩
  · rw [h1]; symm; simp [List.any_eq_false]; exact h2
  · rw [h3]
    have : l.any p = true := List.any_eq_true.2 ⟨x, List.mem_of_getElem? h1, h2⟩
    rw [this]; simp

/-- a fault's value -/
def fv (f : Int × Int) : Value := .agg #[iv f.1, iv f.2]

theorem fe {a b : Int} {f : Int × Int} (h : f = (a, b)) : ret1 [.agg #[iv a, iv b]] = fv f := by rw [h]; rfl

def low (c : UInt8) : Bool := decide ((97 : Int) ≤ c.toNat) && decide ((c.toNat : Int) ≤ 122)
def digit (c : UInt8) : Bool := decide ((48 : Int) ≤ c.toNat) && decide ((c.toNat : Int) ≤ 57)
def nameRest (c : UInt8) : Bool := low c || digit c || decide ((c.toNat : Int) = 95) || decide ((c.toNat : Int) = 45)
/-- a name: 1 to 30 letters, the first one small, then also digits, _ and - -/
def isName (s : Str) : Bool := decide (0 < s.length) && decide (s.length ≤ 30) && low (s.getD 0 0) && s.all nameRest
theorem isName_len {s : Str} (h : isName s = true) : 0 < s.length ∧ s.length ≤ 30 := by
  simp only [isName, Bool.and_eq_true, decide_eq_true_eq] at h
  exact ⟨h.1.1.1, h.1.1.2⟩
theorem isName_bad1 {s : Str} (h : ((s.length : Int) = 0 ∨ 30 < (s.length : Int)) ∨ ((s.getD 0 0).toNat : Int) < 97 ∨ 122 < ((s.getD 0 0).toNat : Int)) : isName s = false := by
  simp only [isName, low, Bool.and_eq_false_iff, decide_eq_false_iff_not]
  left; omega
theorem isName_bad2 {s : Str} {k : Nat} (hk : k < s.length) (h : nameRest (s.getD k 0) = false) : isName s = false := by
  simp only [isName, all_false_of hk h, Bool.and_false]
theorem isName_good {s : Str} (h0 : 0 < s.length) (h1 : s.length ≤ 30) (h2 : low (s.getD 0 0) = true) (h : s.all nameRest = true) : isName s = true := by
  simp only [isName, h2, h, Bool.and_true, Bool.and_eq_true, decide_eq_true_eq]
  exact ⟨h0, h1⟩
end Go.J
