/-
  Several texts in one: YtgikcbfdonjggaaGreatDoorSufP, YtgikcbfdonjggaaGreatDoorSufQ, YtgikcbfdonjggaaGreatDoorSufR, YtgikcbfdonjggaaGreatDoorConP, YtgikcbfdonjggaaGreatDoorJ14, YtgikcbfdonjggaaGreatDoorJ15a, YtgikcbfdonjggaaGreatDoorJ15, YtgikcbfdonjggaaGreatDoorFacts, YtgikcbfdonjggaaGreatDoorW1, YtgikcbfdonjggaaGreatDoorLay, YtgikcbfdonjggaaGreatDoorW2, YtgikcbfdonjggaaGreatDoorW3, YtgikcbfdonjggaaGreatDoorJ16, YtgikcbfdonjggaaGreatDoorW4, YtgikcbfdonjggaaGreatDoorJ17, YtgikcbfdonjggaaGreatDoorLay2.
  Conditions: none.
-/
import Derived.Test.YtgikcbfdonjggaaGreatDoorGF2
import Derived.Test.YtgikcbfdonjggaaGreatDoorGF1
import Derived.Shelf.SlSortCmp.NoneTotal
import Derived.Test.YtgikcbfdonjggaaGreatDoorChecked
import Derived.Shelf.SlGeneric
import Derived.Laws.Small
import Derived.Shelf.SortM.Plain
import Derived.Shelf.SortM.SortNone
/-
  (YtgikcbfdonjggaaGreatDoorSufP)
  Plain facts on lists of numbers in their order, and on sorting the ends of a list by beginnings that are twice as long: no program stands here.
  Conditions: none.
-/
namespace Go.J
open Go

/-- the order of lists -/
def llt : List Int → List Int → Bool
  | [], [] => false
  | [], _ :: _ => true
  | _ :: _, [] => false
  | a :: x, b :: y => decide (a < b) || (decide (a = b) && llt x y)
theorem llt_irrefl : ∀ x : List Int, llt x x = false
  | [] => rfl
  | a :: x => by simp [llt, llt_irrefl x]
theorem llt_trans : ∀ {x y z : List Int}, llt x y = true → llt y z = true → llt x z = true
  | [], [], _, h, _ => by simp [llt] at h
  | [], _ :: _, [], _, h => by simp [llt] at h
  | [], _ :: _, _ :: _, _, _ => rfl
  | _ :: _, [], _, h, _ => by simp [llt] at h
  | _ :: _, _ :: _, [], _, h => by simp [llt] at h
  | a :: x, b :: y, c :: z, h, k => by
    simp only [llt, Bool.or_eq_true, Bool.and_eq_true, decide_eq_true_eq] at h k ⊢
    rcases h with h | ⟨h, h'⟩
    · left; rcases k with k | ⟨k, _⟩ <;> omega
    · rcases k with k | ⟨k, k'⟩
      · left; omega
      · right; exact ⟨by omega, llt_trans h' k'⟩
theorem llt_tri : ∀ (x y : List Int), llt x y = true ∨ x = y ∨ llt y x = true
  | [], [] => .inr (.inl rfl)
  | [], _ :: _ => .inl rfl
  | _ :: _, [] => .inr (.inr rfl)
  | a :: x, b :: y => by
    simp only [llt, Bool.or_eq_true, Bool.and_eq_true, decide_eq_true_eq, List.cons.injEq]
    rcases Int.lt_trichotomy a b with h | h | h
    · exact .inl (.inl h)
    · rcases llt_tri x y with k | k | k
      · exact .inl (.inr ⟨h, k⟩)
      · exact .inr (.inl ⟨h, k⟩)
      · exact .inr (.inr (.inr ⟨h.symm, k⟩))
    · exact .inr (.inr (.inl h))
theorem llt_asymm {x y : List Int} (h : llt x y = true) : llt y x = false := by
  cases k : llt y x with
  | false => rfl
  | true => have := llt_trans h k; rw [llt_irrefl] at this; cases this
theorem llt_ne {x y : List Int} (h : llt x y = true) : x ≠ y := by rintro rfl; rw [llt_irrefl] at h; cases h
/-- what stands behind two beginnings of one length, or of a whole list, counts last -/
theorem llt_append : ∀ {x y u v : List Int}, (x.length = y.length ∨ (x.length < y.length ∧ u = []) ∨ (y.length < x.length ∧ v = [])) → llt (x ++ u) (y ++ v) = (llt x y || (decide (x = y) && llt u v))
  | [], [], u, v, _ => by simp [llt]
  | [], b :: y, u, v, h => by
    rcases h with h | ⟨_, h⟩ | ⟨h, _⟩
    · simp at h
    · subst h; simp [llt]
    · simp at h
  | a :: x, [], u, v, h => by
    rcases h with h | ⟨h, _⟩ | ⟨_, h⟩
    · simp at h
    · simp at h
    · subst h; simp [llt]
  | a :: x, b :: y, u, v, h => by
    have ih := @llt_append x y u v (by simpa using h)
    simp only [List.cons_append, llt, ih, List.cons.injEq]
    by_cases h1 : a < b
    · have : a ≠ b := by omega
      simp [h1]
    · by_cases h2 : a = b
      · subst h2; simp
      · simp [h1, h2]

section
variable (p : List Int)
def pre (L i : Nat) : List Int := (p.drop i).take L
theorem pre_length (L i : Nat) : (pre p L i).length = min L (p.length - i) := by simp [pre]
theorem pre_add (L M i : Nat) : pre p (L + M) i = pre p L i ++ pre p M (i + L) := by
  unfold pre
  rw [List.take_add, List.drop_drop]
theorem pre_out {L i : Nat} (h : p.length ≤ i) : pre p L i = [] := by unfold pre; rw [List.drop_of_length_le h]; simp
theorem pre_whole {L i : Nat} (h : p.length ≤ i + L) : pre p L i = p.drop i := by unfold pre; rw [List.take_of_length_le (by simp; omega)]
/-- beginnings twice as long, by those before -/
theorem pre_double {L i j : Nat} : llt (pre p (L + L) i) (pre p (L + L) j) = (llt (pre p L i) (pre p L j) || (decide (pre p L i = pre p L j) && llt (pre p L (i + L)) (pre p L (j + L)))) := by
  rw [pre_add, pre_add]
  refine llt_append ?_
  rw [pre_length, pre_length]
  by_cases h1 : min L (p.length - i) = min L (p.length - j)
  · exact .inl h1
  · rcases Nat.lt_or_gt_of_ne h1 with h | h
    · exact .inr (.inl ⟨h, pre_out p (by omega)⟩)
    · exact .inr (.inr ⟨h, pre_out p (by omega)⟩)
theorem pre_double_eq {L i j : Nat} (hi : i < p.length) (hj : j < p.length) : pre p (L + L) i = pre p (L + L) j ↔ pre p L i = pre p L j ∧ pre p L (i + L) = pre p L (j + L) := by
  rw [pre_add, pre_add]
  constructor
  · intro h
    have hl := congrArg List.length h
    simp only [List.length_append, pre_length] at hl
    exact List.append_inj h (by rw [pre_length, pre_length]; omega)
  · rintro ⟨h1, h2⟩; rw [h1, h2]
/-- a rank by beginnings -/
structure IsRank (L : Nat) (rank : Nat → Int) : Prop where
  lt : ∀ i j, i < p.length → j < p.length → (rank i < rank j ↔ llt (pre p L i) (pre p L j) = true)
  eq : ∀ i j, i < p.length → j < p.length → (rank i = rank j ↔ pre p L i = pre p L j)
  pos : ∀ i, i < p.length → 0 ≤ rank i ∧ rank i < p.length
/-- the rank of what stands a step on; -1: nothing stands there -/
def second (L : Nat) (rank : Nat → Int) (i : Nat) : Int := if i + L < p.length then rank (i + L) else -1
variable {p}
theorem second_lt {L : Nat} {rank : Nat → Int} (hL : 0 < L) (h : IsRank p L rank) (i j : Nat) : second p L rank i < second p L rank j ↔ llt (pre p L (i + L)) (pre p L (j + L)) = true := by
  unfold second
  by_cases hi : i + L < p.length
  · by_cases hj : j + L < p.length
    · rw [if_pos hi, if_pos hj]; exact h.lt _ _ hi hj
    · rw [if_pos hi, if_neg hj, pre_out p (show p.length ≤ j + L by omega)]
      have := (h.pos _ hi).1
      constructor
      · intro k; omega
      · intro k; cases hx : pre p L (i + L) <;> rw [hx] at k <;> simp [llt] at k
  · by_cases hj : j + L < p.length
    · rw [if_neg hi, if_pos hj, pre_out p (show p.length ≤ i + L by omega)]
      have := (h.pos _ hj).1
      constructor
      · intro _
        cases hx : pre p L (j + L) with
        | nil =>
          have h2 := congrArg List.length hx
          rw [pre_length] at h2
          simp only [List.length_nil] at h2
          omega
        | cons a x => rfl
      · intro _; omega
    · rw [if_neg hi, if_neg hj, pre_out p (show p.length ≤ i + L by omega), pre_out p (show p.length ≤ j + L by omega)]; simp [llt]
/-- the sign of a comparison -/
def sgn (a b : Int) : Int := if a < b then -1 else if b < a then 1 else 0
theorem sgn_neg {a b : Int} : sgn a b < 0 ↔ a < b := by unfold sgn; split <;> (try split) <;> constructor <;> intro h <;> omega
theorem sgn_zero {a b : Int} : sgn a b = 0 ↔ a = b := by unfold sgn; split <;> (try split) <;> constructor <;> intro h <;> omega
/-- a comparison by keys, of the numbers below n -/
structure KeyCmp (n : Nat) (key : Nat → List Int) (cf : Nat → Nat → Int) : Prop where
  lt : ∀ i j, i < n → j < n → (cf i j < 0 ↔ llt (key i) (key j) = true)
  eq : ∀ i j, i < n → j < n → (cf i j = 0 ↔ key i = key j)
def cfR (p : List Int) (L : Nat) (rank : Nat → Int) (i j : Nat) : Int := if sgn (rank i) (rank j) ≠ 0 then sgn (rank i) (rank j) else sgn (second p L rank i) (second p L rank j)
theorem cfR_key {L : Nat} {rank : Nat → Int} (hL : 0 < L) (h : IsRank p L rank) : KeyCmp p.length (pre p (L + L)) (cfR p L rank) where
  lt i j hi hj := by
    rw [pre_double]
    have e1 := h.lt i j hi hj
    have e2 := h.eq i j hi hj
    have e3 := second_lt hL h i j
    unfold cfR
    simp only [Bool.or_eq_true, Bool.and_eq_true, decide_eq_true_eq]
    by_cases k : rank i = rank j
    · rw [if_neg (by simpa using sgn_zero.2 k), sgn_neg, e3]
      constructor
      · intro m; exact .inr ⟨e2.1 k, m⟩
      · rintro (m | m)
        · have := e1.2 m; omega
        · exact m.2
    · rw [if_pos (fun m => k (sgn_zero.1 m)), sgn_neg, e1]
      constructor
      · exact .inl
      · rintro (m | m)
        · exact m
        · exact absurd (e2.2 m.1) k
  eq i j hi hj := by
    rw [pre_double_eq p hi hj]
    have e2 := h.eq i j hi hj
    have e3 := second_lt hL h i j
    have e4 := second_lt hL h j i
    unfold cfR
    by_cases k : rank i = rank j
    · rw [if_neg (by simpa using sgn_zero.2 k), sgn_zero]
      constructor
      · intro m
        refine ⟨e2.1 k, ?_⟩
        rcases llt_tri (pre p L (i + L)) (pre p L (j + L)) with q | q | q
        · have := e3.2 q; omega
        · exact q
        · have := e4.2 q; omega
      · rintro ⟨_, m⟩
        rw [m] at e3 e4
        rw [llt_irrefl] at e3 e4
        simp only [Bool.false_eq_true, iff_false, Int.not_lt] at e3 e4
        omega
    · rw [if_pos (fun m => k (sgn_zero.1 m))]
      constructor
      · intro m; exact absurd (sgn_zero.1 m) k
      · rintro ⟨m, _⟩; exact absurd (e2.2 m) k
theorem pre_one (i : Nat) (hi : i < p.length) : pre p 1 i = [p.getD i 0] := by
  unfold pre
  rw [List.drop_eq_getElem_cons hi, List.take_succ_cons, List.take_zero, List.getD_eq_getElem?_getD, List.getElem?_eq_getElem hi]
  rfl
theorem cf1_key : KeyCmp p.length (pre p 1) (fun i j => sgn (p.getD i 0) (p.getD j 0)) where
  lt i j hi hj := by rw [pre_one i hi, pre_one j hj, sgn_neg]; simp [llt]
  eq i j hi hj := by rw [pre_one i hi, pre_one j hj, sgn_zero]; simp
end

/-! ranks of a sorted row -/
def rkAt (cf : Nat → Nat → Int) (l : List Nat) : Nat → Nat
  | 0 => 0
  | k + 1 => if cf (l.getD k 0) (l.getD (k + 1) 0) = 0 then rkAt cf l k else k + 1
section
variable {n : Nat} {key : Nat → List Int} {cf : Nat → Nat → Int} {l : List Nat}
theorem rkAt_le : ∀ k, rkAt cf l k ≤ k
  | 0 => Nat.le_refl _
  | k + 1 => by
    unfold rkAt
    split
    · exact Nat.le_succ_of_le (rkAt_le k)
    · exact Nat.le_refl _
theorem perm_lt (hp : l.Perm (List.range n)) {k : Nat} (hk : k < n) : l.getD k 0 < n := by
  have hl : l.length = n := by rw [hp.length_eq, List.length_range]
  have : l.getD k 0 ∈ l := by rw [List.getD_eq_getElem?_getD, List.getElem?_eq_getElem (by omega)]; exact List.getElem_mem _
  exact List.mem_range.1 (hp.mem_iff.1 this)
theorem perm_nodup (hp : l.Perm (List.range n)) : l.Nodup := hp.nodup_iff.2 List.nodup_range
theorem perm_inj (hp : l.Perm (List.range n)) {j k : Nat} (hj : j < n) (hk : k < n) (h : l.getD j 0 = l.getD k 0) : j = k := by
  have hl : l.length = n := by rw [hp.length_eq, List.length_range]
  have hn := perm_nodup hp
  rw [List.getD_eq_getElem?_getD, List.getElem?_eq_getElem (show j < l.length by omega), List.getD_eq_getElem?_getD, List.getElem?_eq_getElem (show k < l.length by omega)] at h
  simp only [Option.getD_some] at h
  exact (List.getElem_inj hn).1 h
theorem perm_at (hp : l.Perm (List.range n)) {i : Nat} (hi : i < n) : ∃ k, k < n ∧ l.getD k 0 = i := by
  have hl : l.length = n := by rw [hp.length_eq, List.length_range]
  have := hp.mem_iff.2 (List.mem_range.2 hi)
  obtain ⟨k, hk, rfl⟩ := List.mem_iff_getElem.1 this
  exact ⟨k, by omega, by rw [List.getD_eq_getElem?_getD, List.getElem?_eq_getElem hk]; rfl⟩
/-- sorted, equals next to one another -/
def Sorted (cf : Nat → Nat → Int) (l : List Nat) : Prop := ∀ j k, j < k → k < l.length → ¬ cf (l.getD k 0) (l.getD j 0) < 0
theorem rkAt_key (hK : KeyCmp n key cf) (hp : l.Perm (List.range n)) (hs : Sorted cf l) : ∀ k j, k < n → j ≤ k → (key (l.getD j 0) = key (l.getD k 0) ∧ rkAt cf l j = rkAt cf l k) ∨ (llt (key (l.getD j 0)) (key (l.getD k 0)) = true ∧ rkAt cf l j < rkAt cf l k)
  | 0, j, _, hj => by
    obtain rfl : j = 0 := by omega
    exact .inl ⟨rfl, rfl⟩
  | k + 1, j, hk, hj => by
    have hl : l.length = n := by rw [hp.length_eq, List.length_range]
    rcases Nat.lt_or_ge j (k + 1) with h1 | h1
    · have b1 := perm_lt hp (show k < n by omega)
      have b2 := perm_lt hp hk
      have ih := rkAt_key hK hp hs k j (by omega) (by omega)
      by_cases h2 : cf (l.getD k 0) (l.getD (k + 1) 0) = 0
      · have h3 := (hK.eq _ _ b1 b2).1 h2
        have h4 : rkAt cf l (k + 1) = rkAt cf l k := by rw [rkAt, if_pos h2]
        rw [h4, ← h3]; exact ih
      · have h4 : rkAt cf l (k + 1) = k + 1 := by rw [rkAt, if_neg h2]
        have h5 : llt (key (l.getD k 0)) (key (l.getD (k + 1) 0)) = true := by
          rcases llt_tri (key (l.getD k 0)) (key (l.getD (k + 1) 0)) with q | q | q
          · exact q
          · exact absurd ((hK.eq _ _ b1 b2).2 q) h2
          · exact absurd ((hK.lt _ _ b2 b1).2 q) (hs k (k + 1) (by omega) (by omega))
        right
        refine ⟨?_, by rw [h4]; exact Nat.lt_of_le_of_lt (rkAt_le j) h1⟩
        rcases ih with ⟨h6, _⟩ | ⟨h6, _⟩
        · rw [h6]; exact h5
        · exact llt_trans h6 h5
    · obtain rfl : j = k + 1 := by omega
      exact .inl ⟨rfl, rfl⟩
/-- what a row of ranks is to be -/
def Ranks (cf : Nat → Nat → Int) (l : List Nat) (rk : List Int) : Prop := rk.length = l.length ∧ ∀ k, k < l.length → rk.getD (l.getD k 0) 0 = rkAt cf l k
theorem ranks_is {p : List Int} {L : Nat} (hK : KeyCmp p.length (pre p L) cf) (hp : l.Perm (List.range p.length)) (hs : Sorted cf l) {rk : List Int} (hr : Ranks cf l rk) : IsRank p L (fun i => rk.getD i 0) := by
  have hl : l.length = p.length := by rw [hp.length_eq, List.length_range]
  have main : ∀ i j, i < p.length → j < p.length → (pre p L i = pre p L j ∧ rk.getD i 0 = rk.getD j 0) ∨ (llt (pre p L i) (pre p L j) = true ∧ rk.getD i 0 < rk.getD j 0) ∨ (llt (pre p L j) (pre p L i) = true ∧ rk.getD j 0 < rk.getD i 0) := by
    intro i j hi hj
    obtain ⟨a, ha, rfl⟩ := perm_at hp hi
    obtain ⟨b, hb, rfl⟩ := perm_at hp hj
    rw [hr.2 a (by omega), hr.2 b (by omega)]
    rcases Nat.le_total a b with h | h
    · rcases rkAt_key hK hp hs b a hb h with ⟨h1, h2⟩ | ⟨h1, h2⟩
      · exact .inl ⟨h1, by rw [h2]⟩
      · exact .inr (.inl ⟨h1, by omega⟩)
    · rcases rkAt_key hK hp hs a b ha h with ⟨h1, h2⟩ | ⟨h1, h2⟩
      · exact .inl ⟨h1.symm, by rw [h2]⟩
      · exact .inr (.inr ⟨h1, by omega⟩)
  refine ⟨fun i j hi hj => ?_, fun i j hi hj => ?_, fun i hi => ?_⟩
  · rcases main i j hi hj with ⟨h1, h2⟩ | ⟨h1, h2⟩ | ⟨h1, h2⟩
    · exact ⟨fun h => by omega, fun h => by rw [h1, llt_irrefl] at h; cases h⟩
    · exact ⟨fun _ => h1, fun _ => h2⟩
    · exact ⟨fun h => by omega, fun h => by rw [llt_asymm h1] at h; cases h⟩
  · rcases main i j hi hj with ⟨h1, h2⟩ | ⟨h1, h2⟩ | ⟨h1, h2⟩
    · exact ⟨fun _ => h1, fun _ => h2⟩
    · exact ⟨fun h => by omega, fun h => absurd h (llt_ne h1)⟩
    · exact ⟨fun h => by omega, fun h => absurd h.symm (llt_ne h1)⟩
  · obtain ⟨a, ha, rfl⟩ := perm_at hp hi
    rw [hr.2 a (by omega)]
    have := rkAt_le (cf := cf) (l := l) a
    omega
end
/-- the ends of a list in their order -/
def IsSuf (p : List Int) (l : List Nat) : Prop := l.Perm (List.range p.length) ∧ ∀ j k, j < k → k < l.length → llt (p.drop (l.getD j 0)) (p.drop (l.getD k 0)) = true
theorem drop_of_pre {p : List Int} {L i j : Nat} (h : llt (pre p L i) (pre p L j) = true) (hi : i < p.length) (hj : j < p.length) : llt (p.drop i) (p.drop j) = true := by
  have e1 : p.drop i = pre p L i ++ p.drop (i + L) := by unfold pre; rw [← List.drop_drop, List.take_append_drop]
  have e2 : p.drop j = pre p L j ++ p.drop (j + L) := by unfold pre; rw [← List.drop_drop, List.take_append_drop]
  rw [e1, e2, llt_append, h]
  · rfl
  · rw [pre_length, pre_length]
    by_cases h1 : min L (p.length - i) = min L (p.length - j)
    · exact .inl h1
    · rcases Nat.lt_or_gt_of_ne h1 with h | h
      · exact .inr (.inl ⟨h, List.drop_of_length_le (by omega)⟩)
      · exact .inr (.inr ⟨h, List.drop_of_length_le (by omega)⟩)
section
variable {p : List Int} {L : Nat} {cf : Nat → Nat → Int} {l : List Nat} {rk : List Int}
/-- no tie is left: all is sorted -/
theorem suf_done (hK : KeyCmp p.length (pre p L) cf) (hp : l.Perm (List.range p.length)) (hs : Sorted cf l) (hr : Ranks cf l rk) (hd : ∀ i ∈ l, l.getD (rk.getD i 0).toNat 0 = i) : IsSuf p l := by
  have hl : l.length = p.length := by rw [hp.length_eq, List.length_range]
  have fix : ∀ k, k < l.length → rkAt cf l k = k := fun k hk => by
    have hm : l.getD k 0 ∈ l := by rw [List.getD_eq_getElem?_getD, List.getElem?_eq_getElem hk]; exact List.getElem_mem _
    have h1 := hd _ hm
    rw [hr.2 k hk, Int.toNat_natCast] at h1
    have := rkAt_le (cf := cf) (l := l) k
    exact perm_inj hp (by omega) (by omega) h1
  refine ⟨hp, fun j k hjk hk => ?_⟩
  have b1 := perm_lt hp (show j < p.length by omega)
  have b2 := perm_lt hp (show k < p.length by omega)
  rcases rkAt_key hK hp hs k j (by omega) (by omega) with ⟨_, h2⟩ | ⟨h1, _⟩
  · rw [fix j (by omega), fix k hk] at h2; omega
  · exact drop_of_pre h1 b1 b2
/-- a tie is left: there is more to come -/
theorem suf_more (hK : KeyCmp p.length (pre p L) cf) (hp : l.Perm (List.range p.length)) (hs : Sorted cf l) (hr : Ranks cf l rk) {i : Nat} (hi : i ∈ l) (hd : l.getD (rk.getD i 0).toNat 0 ≠ i) : L < p.length := by
  have hl : l.length = p.length := by rw [hp.length_eq, List.length_range]
  have hi' := List.mem_range.1 (hp.mem_iff.1 hi)
  obtain ⟨k, hk, rfl⟩ := perm_at hp hi'
  rw [hr.2 k (by omega), Int.toNat_natCast] at hd
  have hle := rkAt_le (cf := cf) (l := l) k
  have hne : rkAt cf l k ≠ k := fun e => hd (by rw [e])
  apply Decidable.byContradiction
  intro hL
  have key : ∀ k, k < p.length → rkAt cf l k = k := by
    intro k hk
    cases k with
    | zero => rfl
    | succ k =>
      rw [rkAt, if_neg]
      intro h0
      have b1 := perm_lt hp (show k < p.length by omega)
      have b2 := perm_lt hp hk
      have h1 := (hK.eq _ _ b1 b2).1 h0
      have h2 := congrArg List.length h1
      rw [pre_length, pre_length] at h2
      have := perm_inj hp (show k < p.length by omega) hk (by omega)
      omega
  exact hne (key k hk)
end
theorem suf_unique {p : List Int} {l l' : List Nat} (h : IsSuf p l) (h' : IsSuf p l') : l = l' := by
  have hp : l.Perm l' := h.1.trans h'.1.symm
  have pw : ∀ {m : List Nat}, IsSuf p m → m.Pairwise (fun a b => llt (p.drop a) (p.drop b) = true) := fun {m} hm => by
    rw [List.pairwise_iff_getElem]
    intro i j hi hj hij
    have := hm.2 i j hij hj
    rwa [List.getD_eq_getElem?_getD, List.getElem?_eq_getElem hi, List.getD_eq_getElem?_getD, List.getElem?_eq_getElem hj] at this
  exact hp.eq_of_pairwise (fun a b _ _ h1 h2 => by have := llt_asymm h1; rw [h2] at this; cases this) (pw h) (pw h')
end Go.J

/-
  (YtgikcbfdonjggaaGreatDoorSufQ)
  Plain facts on the ends of a list in their order: inserting one after the other, the places of a part: no program stands here.
  Conditions: none.
-/
namespace Go.J
open Go

section
variable {p : List Int}
theorem llt_drop {a b : Nat} (ha : a < p.length) (hb : b < p.length) : llt (p.drop a) (p.drop b) = (decide (p.getD a 0 < p.getD b 0) || (decide (p.getD a 0 = p.getD b 0) && llt (p.drop (a + 1)) (p.drop (b + 1)))) := by
  rw [List.drop_eq_getElem_cons ha, List.drop_eq_getElem_cons hb, List.getD_eq_getElem?_getD, List.getElem?_eq_getElem ha, List.getD_eq_getElem?_getD, List.getElem?_eq_getElem hb]
  rfl
theorem llt_drop_eq {a b : Nat} (ha : a < p.length) (hb : b < p.length) (h : p.getD a 0 = p.getD b 0) : llt (p.drop a) (p.drop b) = llt (p.drop (a + 1)) (p.drop (b + 1)) := by
  rw [llt_drop ha hb, h]; simp
theorem llt_drop_ne {a b : Nat} (ha : a < p.length) (hb : b < p.length) (h : p.getD a 0 ≠ p.getD b 0) : llt (p.drop a) (p.drop b) = decide (p.getD a 0 < p.getD b 0) := by
  rw [llt_drop ha hb, decide_eq_false h, Bool.false_and, Bool.or_false]
theorem llt_drop_end {a b : Nat} (h : p.length ≤ a ∨ p.length ≤ b) : llt (p.drop a) (p.drop b) = (decide (p.length ≤ a) && decide (b < p.length)) := by
  by_cases ha : p.length ≤ a
  · rw [List.drop_of_length_le ha, decide_eq_true ha, Bool.true_and]
    by_cases hb : b < p.length
    · rw [List.drop_eq_getElem_cons hb, decide_eq_true hb]; rfl
    · rw [List.drop_of_length_le (show p.length ≤ b by omega), decide_eq_false hb]; rfl
  · rw [decide_eq_false ha, Bool.false_and, List.drop_of_length_le (show p.length ≤ b by omega)]
    cases p.drop a <;> rfl
theorem drop_inj {a b : Nat} (ha : a ≤ p.length) (hb : b ≤ p.length) (h : p.drop a = p.drop b) : a = b := by
  have := congrArg List.length h
  simp only [List.length_drop] at this
  omega
abbrev Sx (p : List Int) (l : List Nat) : Prop := l.Pairwise (fun a b => llt (p.drop a) (p.drop b) = true)
theorem suf_of {l : List Nat} (hp : l.Perm (List.range p.length)) (h : Sx p l) : IsSuf p l := by
  refine ⟨hp, fun j k hjk hk => ?_⟩
  have := List.pairwise_iff_getElem.1 h j k (by omega) hk hjk
  rwa [List.getD_eq_getElem?_getD, List.getElem?_eq_getElem (show j < l.length by omega), List.getD_eq_getElem?_getD, List.getElem?_eq_getElem hk]
theorem suf_pw {l : List Nat} (hm : IsSuf p l) : Sx p l := by
  refine List.pairwise_iff_getElem.2 ?_
  intro i j hi hj hij
  have := hm.2 i j hij hj
  rwa [List.getD_eq_getElem?_getD, List.getElem?_eq_getElem hi, List.getD_eq_getElem?_getD, List.getElem?_eq_getElem hj] at this
/-- inserting: i stands between A and B, all but i is sorted, i is less than B -/
structure InsI (p : List Int) (i : Nat) (A B : List Nat) : Prop where
  perm : (A ++ B).Perm (List.range i)
  srt : Sx p (A ++ B)
  less : ∀ b ∈ B, llt (p.drop i) (p.drop b) = true
theorem InsI.init {i : Nat} {l : List Nat} (hp : l.Perm (List.range i)) (h : Sx p l) : InsI p i l [] := ⟨by simpa using hp, by simpa using h, fun _ h => by cases h⟩
theorem InsI.step {i a : Nat} {A B : List Nat} (h : InsI p i (A ++ [a]) B) (hl : llt (p.drop i) (p.drop a) = true) : InsI p i A (a :: B) :=
  ⟨by simpa using h.perm, by simpa using h.srt, fun b hb => by rcases List.mem_cons.1 hb with rfl | hb; exact hl; exact h.less b hb⟩
theorem InsI.done {i : Nat} {A B : List Nat} (h : InsI p i A B) (hi : i < p.length) (hl : A = [] ∨ ∃ A' a, A = A' ++ [a] ∧ llt (p.drop i) (p.drop a) = false) : (A ++ i :: B).Perm (List.range (i + 1)) ∧ Sx p (A ++ i :: B) := by
  have hmem : ∀ x ∈ A ++ B, x < i := fun x hx => List.mem_range.1 (h.perm.mem_iff.1 hx)
  constructor
  · rw [List.range_succ]
    exact List.perm_middle.trans ((h.perm.cons i).trans (List.perm_append_singleton i _).symm)
  · have hs := List.pairwise_append.1 h.srt
    have hA : ∀ x ∈ A, llt (p.drop x) (p.drop i) = true := by
      rcases hl with rfl | ⟨A', a, rfl, hla⟩
      · intro x hx; cases hx
      · have last : llt (p.drop a) (p.drop i) = true := by
          have hai := hmem a (by simp)
          rcases llt_tri (p.drop a) (p.drop i) with q | q | q
          · exact q
          · have := drop_inj (by omega) (by omega) q; omega
          · rw [hla] at q; cases q
        intro x hx
        rcases List.mem_append.1 hx with hx | hx
        · exact llt_trans ((List.pairwise_append.1 hs.1).2.2 x hx a (List.mem_singleton_self _)) last
        · rw [List.mem_singleton.1 hx]; exact last
    refine List.pairwise_append.2 ⟨hs.1, List.pairwise_cons.2 ⟨h.less, hs.2.1⟩, ?_⟩
    intro x hx y hy
    rcases List.mem_cons.1 hy with rfl | hy
    · exact hA x hx
    · exact hs.2.2 x hx y hy

/-! the places of a part -/
def placesOf (p part : List Int) : List Nat := (List.range p.length).filter fun i => decide (pre p part.length i = part)
theorem pre_eq_iff {part : List Int} {i : Nat} : pre p part.length i = part ↔ i + part.length ≤ p.length ∧ (∀ k, k < part.length → p.getD (i + k) 0 = part.getD k 0) ∨ part = [] := by
  constructor
  · intro h
    have hl := congrArg List.length h
    rw [pre_length] at hl
    cases hp : part with
    | nil => right; rfl
    | cons a x =>
      left
      rw [← hp]
      have hpos : 0 < part.length := by rw [hp]; simp
      refine ⟨by omega, fun k hk => ?_⟩
      have := congrArg (fun l => l[k]?) h
      simp only [pre, List.getElem?_take, List.getElem?_drop, if_pos hk] at this
      rw [List.getD_eq_getElem?_getD, this, ← List.getD_eq_getElem?_getD]
  · rintro (⟨h1, h2⟩ | rfl)
    · apply List.ext_getElem?
      intro k
      simp only [pre, List.getElem?_take, List.getElem?_drop]
      split
      · rename_i hk
        have := h2 k hk
        rw [List.getD_eq_getElem?_getD, List.getD_eq_getElem?_getD, List.getElem?_eq_getElem (show i + k < p.length by omega), List.getElem?_eq_getElem hk] at this
        rw [List.getElem?_eq_getElem (show i + k < p.length by omega), List.getElem?_eq_getElem hk]
        simpa using this
      · rename_i hk
        rw [List.getElem?_eq_none (by omega)]
    · simp [pre]
theorem pre_ne_long {part : List Int} {i : Nat} (hi : i ≤ p.length) (h : p.length < i + part.length) : pre p part.length i ≠ part := by
  intro e
  have := congrArg List.length e
  rw [pre_length] at this
  omega
theorem pre_snoc {part : List Int} {x : Int} {i : Nat} (hi : i < p.length) : pre p (part ++ [x]).length i = part ++ [x] ↔ pre p part.length i = part ∧ i + part.length < p.length ∧ p.getD (i + part.length) 0 = x := by
  rw [List.length_append, List.length_singleton, pre_add]
  constructor
  · intro h
    have hl := congrArg List.length h
    simp only [List.length_append, pre_length, List.length_singleton] at hl
    have h1 := List.append_inj h (by rw [pre_length]; omega)
    refine ⟨h1.1, by omega, ?_⟩
    have h2 := h1.2
    rw [pre_one _ (by omega)] at h2
    simpa using h2
  · rintro ⟨h1, h2, h3⟩
    rw [h1, pre_one _ h2, h3]

/-! a row in order, cut where a part begins and ends -/
theorem pre_mono {m i j : Nat} (h : llt (p.drop i) (p.drop j) = true) : llt (pre p m j) (pre p m i) = false := by
  have e1 : p.drop i = pre p m i ++ p.drop (i + m) := by unfold pre; rw [← List.drop_drop, List.take_append_drop]
  have e2 : p.drop j = pre p m j ++ p.drop (j + m) := by unfold pre; rw [← List.drop_drop, List.take_append_drop]
  cases hc : llt (pre p m j) (pre p m i) with
  | false => rfl
  | true =>
    have : llt (p.drop j) (p.drop i) = true := by
      rw [e1, e2, llt_append, hc]
      · rfl
      · rw [pre_length, pre_length]
        by_cases h1 : min m (p.length - j) = min m (p.length - i)
        · exact .inl h1
        · rcases Nat.lt_or_gt_of_ne h1 with h | h
          · exact .inr (.inl ⟨h, List.drop_of_length_le (by omega)⟩)
          · exact .inr (.inr ⟨h, List.drop_of_length_le (by omega)⟩)
    rw [llt_asymm h] at this
    cases this
theorem countP_cut {n : Nat} {q : Nat → Bool} (hm : ∀ a b, a ≤ b → b < n → q a = true → q b = true) : ∀ k, k < n → (q k = true ↔ (List.range n).countP (fun i => !q i) ≤ k) := by
  induction n with
  | zero => intro k hk; omega
  | succ n ih =>
    have hm' : ∀ a b, a ≤ b → b < n → q a = true → q b = true := fun a b h1 h2 h3 => hm a b h1 (by omega) h3
    have hle : (List.range n).countP (fun i => !q i) ≤ n := by have := List.countP_le_length (p := fun i => !q i) (l := List.range n); rwa [List.length_range] at this
    intro k hk
    rw [List.range_succ, List.countP_append]
    cases hn : q n with
    | true =>
      have e : List.countP (fun i => !q i) [n] = 0 := by simp [hn]
      rw [e, Nat.add_zero]
      rcases Nat.lt_or_ge k n with h | h
      · exact ih hm' k h
      · obtain rfl : k = n := by omega
        simp [hn, hle]
    | false =>
      have e : List.countP (fun i => !q i) [n] = 1 := by simp [hn]
      rw [e]
      have all : ∀ j, j ≤ n → q j = false := fun j hj => by
        cases hq : q j with
        | false => rfl
        | true => have := hm j n hj (by omega) hq; rw [hn] at this; cases this
      have full : (List.range n).countP (fun i => !q i) = n := by
        have : (List.range n).countP (fun i => !q i) = (List.range n).length := by
          rw [List.countP_eq_length]
          intro a ha
          rw [all a (by have := List.mem_range.1 ha; omega)]
          rfl
        rw [this, List.length_range]
      rw [full, all k (by omega)]
      constructor
      · intro h; cases h
      · intro h; omega
/-- what lies between is the filtered row -/
theorem filter_cut {l : List Nat} {Q : Nat → Bool} {a b : Nat} (hab : a ≤ b) (hb : b ≤ l.length) (h : ∀ k, k < l.length → (Q (l.getD k 0) = true ↔ a ≤ k ∧ k < b)) : (l.drop a).take (b - a) = l.filter Q := by
  have e : l = l.take a ++ ((l.drop a).take (b - a) ++ l.drop b) := by
    have h1 : l.drop b = (l.drop a).drop (b - a) := by rw [List.drop_drop]; congr 1; omega
    rw [h1, List.take_append_drop, List.take_append_drop]
  have at_ : ∀ k, k < l.length → l.getD k 0 = l[k]! := fun k hk => by rw [List.getD_eq_getElem?_getD, List.getElem?_eq_getElem hk, getElem!_pos l k hk]; rfl
  have f1 : (l.take a).filter Q = [] := by
    rw [List.filter_eq_nil_iff]
    intro x hx hq
    obtain ⟨k, hk, rfl⟩ := List.mem_iff_getElem.1 hx
    rw [List.length_take] at hk
    rw [List.getElem_take] at hq
    have := (h k (by omega)).1 (by rw [List.getD_eq_getElem?_getD, List.getElem?_eq_getElem (show k < l.length by omega)]; exact hq)
    omega
  have f2 : ((l.drop a).take (b - a)).filter Q = (l.drop a).take (b - a) := by
    rw [List.filter_eq_self]
    intro x hx
    obtain ⟨k, hk, rfl⟩ := List.mem_iff_getElem.1 hx
    rw [List.length_take, List.length_drop] at hk
    rw [List.getElem_take, List.getElem_drop]
    have := (h (a + k) (by omega)).2 ⟨by omega, by omega⟩
    rwa [List.getD_eq_getElem?_getD, List.getElem?_eq_getElem (show a + k < l.length by omega)] at this
  have f3 : (l.drop b).filter Q = [] := by
    rw [List.filter_eq_nil_iff]
    intro x hx hq
    obtain ⟨k, hk, rfl⟩ := List.mem_iff_getElem.1 hx
    rw [List.length_drop] at hk
    rw [List.getElem_drop] at hq
    have := (h (b + k) (by omega)).1 (by rw [List.getD_eq_getElem?_getD, List.getElem?_eq_getElem (show b + k < l.length by omega)]; exact hq)
    omega
  conv => rhs; rw [e]
  rw [List.filter_append, List.filter_append, f1, f2, f3]
  simp
/-- a search in a row in order finds the places of a part -/
theorem places_cut {l : List Nat} {part : List Int} (hs : IsSuf p l) {a b : Nat} (ha : a = (List.range l.length).countP (fun k => !(!llt (pre p part.length (l.getD k 0)) part)))
    (hb : b = (List.range l.length).countP (fun k => !(llt part (pre p part.length (l.getD k 0))))) : a ≤ b ∧ b ≤ l.length ∧ ((l.drop a).take (b - a)).Perm (placesOf p part) := by
  have m1 : ∀ i j, i ≤ j → j < l.length → (!llt (pre p part.length (l.getD i 0)) part) = true → (!llt (pre p part.length (l.getD j 0)) part) = true := by
    intro i j hij hj h
    rcases Nat.lt_or_ge i j with h1 | h1
    · have h2 := pre_mono (m := part.length) (hs.2 i j h1 hj)
      cases hc : llt (pre p part.length (l.getD j 0)) part with
      | false => rfl
      | true =>
        exfalso
        rcases llt_tri (pre p part.length (l.getD i 0)) (pre p part.length (l.getD j 0)) with q | q | q
        · rw [llt_trans q hc] at h; cases h
        · rw [q, hc] at h; cases h
        · rw [h2] at q; cases q
    · obtain rfl : i = j := by omega
      exact h
  have m2 : ∀ i j, i ≤ j → j < l.length → llt part (pre p part.length (l.getD i 0)) = true → llt part (pre p part.length (l.getD j 0)) = true := by
    intro i j hij hj h
    rcases Nat.lt_or_ge i j with h1 | h1
    · have h2 := pre_mono (m := part.length) (hs.2 i j h1 hj)
      rcases llt_tri (pre p part.length (l.getD i 0)) (pre p part.length (l.getD j 0)) with q | q | q
      · exact llt_trans h q
      · rw [← q]; exact h
      · rw [h2] at q; cases q
    · obtain rfl : i = j := by omega
      exact h
  have c1 := countP_cut (n := l.length) (q := fun k => !llt (pre p part.length (l.getD k 0)) part) m1
  have c2 := countP_cut (n := l.length) (q := fun k => llt part (pre p part.length (l.getD k 0))) m2
  rw [← ha] at c1
  rw [← hb] at c2
  have hbl : b ≤ l.length := by rw [hb]; have := List.countP_le_length (p := fun k => !(llt part (pre p part.length (l.getD k 0)))) (l := List.range l.length); rwa [List.length_range] at this
  have hab : a ≤ b := by
    rw [ha, hb]
    apply List.countP_mono_left
    intro k _ h
    cases hc : llt part (pre p part.length (l.getD k 0)) with
    | false => rfl
    | true =>
      simp only [Bool.not_not] at h
      rw [llt_asymm h] at hc; cases hc
  refine ⟨hab, hbl, ?_⟩
  rw [filter_cut (Q := fun i => decide (pre p part.length i = part)) hab hbl]
  · exact hs.1.filter _
  · intro k hk
    have d1 := c1 k hk
    have d2 := c2 k hk
    simp only [Bool.not_eq_true'] at d1
    rw [decide_eq_true_eq, ← d1]
    constructor
    · intro h
      rw [h, llt_irrefl] at d2 ⊢
      refine ⟨rfl, ?_⟩
      apply Decidable.byContradiction
      intro hn
      have := d2.2 (by omega)
      cases this
    · rintro ⟨h1, h2⟩
      rcases llt_tri (pre p part.length (l.getD k 0)) part with q | q | q
      · rw [h1] at q; cases q
      · exact q
      · have := d2.1 q; omega
end
/-- a row of numbers, sorted, is the list in order that it is a permutation of -/
theorem sort_perm {m l : List Nat} (h : m.Perm l) (hl : l.Pairwise (· < ·)) : (m.map (fun i : Nat => (i : Int))).mergeSort (fun x y => decide (x ≤ y)) = l.map (fun i : Nat => (i : Int)) := by
  have h1 := List.pairwise_mergeSort (le := fun x y : Int => decide (x ≤ y)) (fun a b c h1 h2 => by simp only [decide_eq_true_eq] at *; omega) (fun a b => by simp only [Bool.or_eq_true, decide_eq_true_eq]; omega) (m.map (fun i : Nat => (i : Int)))
  have h2 : (l.map (fun i : Nat => (i : Int))).Pairwise (fun a b => decide (a ≤ b) = true) := by
    rw [List.pairwise_map]
    exact hl.imp (fun h => by simp only [decide_eq_true_eq]; omega)
  have hp : ((m.map (fun i : Nat => (i : Int))).mergeSort (fun x y => decide (x ≤ y))).Perm (l.map (fun i : Nat => (i : Int))) := (List.mergeSort_perm _ _).trans (h.map _)
  exact hp.eq_of_pairwise (fun a b _ _ h1 h2 => by simp only [decide_eq_true_eq] at h1 h2; omega) h1 h2
theorem placesOf_sorted (p part : List Int) : (placesOf p part).Pairwise (· < ·) := List.Pairwise.filter _ List.pairwise_lt_range
theorem placesOf_lt {p part : List Int} {i : Nat} (h : i ∈ placesOf p part) : i < p.length := List.mem_range.1 (List.mem_filter.1 h).1
theorem placesOf_snoc (p part : List Int) (x : Int) : placesOf p (part ++ [x]) = (placesOf p part).filter fun i => decide (i + part.length < p.length ∧ p.getD (i + part.length) 0 = x) := by
  unfold placesOf
  rw [List.filter_filter]
  apply List.filter_congr
  intro i hi
  have := pre_snoc (p := p) (part := part) (x := x) (List.mem_range.1 hi)
  rw [Bool.eq_iff_iff]
  simp only [Bool.and_eq_true, decide_eq_true_eq]
  rw [this]
  constructor
  · rintro ⟨h1, h2, h3⟩; exact ⟨⟨h2, h3⟩, h1⟩
  · rintro ⟨⟨h2, h3⟩, h1⟩; exact ⟨h1, h2, h3⟩
section
variable {n : Nat} {cf : Nat → Nat → Int} {l : List Nat}
theorem getD_set_self {rk : List Int} {a : Nat} {x : Int} (h : a < rk.length) : (rk.set a x).getD a 0 = x := by
  rw [List.getD_eq_getElem?_getD, List.getElem?_set_self h]; rfl
theorem getD_set_other {rk : List Int} {a b : Nat} {x : Int} (h : a ≠ b) : (rk.set a x).getD b 0 = rk.getD b 0 := by
  rw [List.getD_eq_getElem?_getD, List.getElem?_set_ne h, ← List.getD_eq_getElem?_getD]
theorem ranked_f {k : Nat} {rk : List Int} (hp : l.Perm (List.range n)) (hk : k < n) (hl : rk.length = n) (h : ∀ j, j < k → rk.getD (l.getD j 0) 0 = rkAt cf l j) (hc : ¬ (0 < k ∧ cf (l.getD (k - 1) 0) (l.getD k 0) = 0)) :
    ∀ j, j < k + 1 → (rk.set (l.getD k 0) (k : Int)).getD (l.getD j 0) 0 = rkAt cf l j := by
  intro j hj
  rcases Nat.lt_or_ge j k with h1 | h1
  · rw [getD_set_other (fun e => by have := perm_inj hp hk (show j < n by omega) e; omega)]
    exact h j h1
  · obtain rfl : j = k := by omega
    rw [getD_set_self (by rw [hl]; exact perm_lt hp hk)]
    cases j with
    | zero => rfl
    | succ j =>
      have e1 : j + 1 - 1 = j := by omega
      rw [e1] at hc
      rw [rkAt, if_neg (fun e => hc ⟨by omega, e⟩)]
theorem ranked_t {k : Nat} {rk : List Int} (hp : l.Perm (List.range n)) (hk : k < n) (hl : rk.length = n) (h : ∀ j, j < k → rk.getD (l.getD j 0) 0 = rkAt cf l j) (hc : 0 < k ∧ cf (l.getD (k - 1) 0) (l.getD k 0) = 0) :
    ∀ j, j < k + 1 → ((rk.set (l.getD k 0) (k : Int)).set (l.getD k 0) ((rk.set (l.getD k 0) (k : Int)).getD (l.getD (k - 1) 0) 0)).getD (l.getD j 0) 0 = rkAt cf l j := by
  intro j hj
  rcases Nat.lt_or_ge j k with h1 | h1
  · have ne : l.getD k 0 ≠ l.getD j 0 := fun e => by have := perm_inj hp hk (show j < n by omega) e; omega
    rw [getD_set_other ne, getD_set_other ne]
    exact h j h1
  · obtain rfl : j = k := by omega
    rw [getD_set_self (by rw [List.length_set, hl]; exact perm_lt hp hk), getD_set_other (fun e => by have := perm_inj hp hk (show j - 1 < n by omega) e; omega), h (j - 1) (by omega)]
    obtain ⟨i, rfl⟩ : ∃ i, j = i + 1 := ⟨j - 1, by omega⟩
    rw [rkAt, if_pos (by simpa using hc.2)]
    rfl
/-- the numbers below n, the first k of them laid -/
def iotaTo (n k : Nat) : List Int := (List.range n).map fun i => if i < k then (i : Int) else 0
theorem iotaTo_zero (n : Nat) : iotaTo n 0 = List.replicate n 0 := by
  apply List.ext_getElem?
  intro i
  simp only [iotaTo, List.getElem?_map, List.getElem?_replicate, Nat.not_lt_zero, if_false]
  by_cases h : i < n
  · rw [List.getElem?_range h]; simp [h]
  · rw [List.getElem?_eq_none (by simp; omega)]; simp [h]
theorem iotaTo_set {n k : Nat} (h : k < n) : (iotaTo n k).set k (k : Int) = iotaTo n (k + 1) := by
  apply List.ext_getElem?
  intro i
  simp only [iotaTo, List.getElem?_set, List.getElem?_map, List.length_map, List.length_range]
  by_cases hi : i < n
  · rw [List.getElem?_range hi]
    by_cases e : k = i
    · subst e; simp [h]
    · simp only [e, if_false, Option.map_some, Option.some.injEq]
      by_cases h2 : i < k
      · rw [if_pos h2, if_pos (by omega)]
      · rw [if_neg h2, if_neg (by omega)]
  · have h3 : (List.range n)[i]? = none := List.getElem?_eq_none (by simp; omega)
    rw [h3, if_neg (by omega)]; rfl
theorem iotaTo_end {n k : Nat} (h : n ≤ k) : iotaTo n k = (List.range n).map (fun i : Nat => (i : Int)) := by
  unfold iotaTo
  apply List.map_congr_left
  intro i hi
  rw [if_pos (by have := List.mem_range.1 hi; omega)]
end
end Go.J

/-
  (YtgikcbfdonjggaaGreatDoorSufR)
  Plain facts on the ends of a list in their order: there is one such row; comparing lists; a search; swapping neighbours: no program stands here.
  Conditions: none.
-/
namespace Go.J
open Go

theorem suf_ex (p : List Int) : ∃ l, IsSuf p l := by
  let le : Nat → Nat → Bool := fun i j => !llt (p.drop j) (p.drop i)
  have hp : ((List.range p.length).mergeSort le).Perm (List.range p.length) := List.mergeSort_perm _ _
  refine ⟨(List.range p.length).mergeSort le, suf_of hp ?_⟩
  have hs : ((List.range p.length).mergeSort le).Pairwise (fun a b => le a b = true) := List.pairwise_mergeSort (fun a b c h1 h2 => by
    simp only [le, Bool.not_eq_true'] at h1 h2 ⊢
    cases h3 : llt (p.drop c) (p.drop a) with
    | false => rfl
    | true =>
      rcases llt_tri (p.drop b) (p.drop c) with t | t | t
      · rw [llt_trans t h3] at h1; cases h1
      · rw [t, h3] at h1; cases h1
      · rw [t] at h2; cases h2) (fun a b => by
    simp only [le, Bool.or_eq_true, Bool.not_eq_true']
    cases h3 : llt (p.drop b) (p.drop a) with
    | false => exact .inl rfl
    | true => exact .inr (llt_asymm h3)) _
  have hn : ((List.range p.length).mergeSort le).Nodup := perm_nodup hp
  have hb : ∀ a ∈ (List.range p.length).mergeSort le, a < p.length := fun a ha => List.mem_range.1 (hp.mem_iff.1 ha)
  refine List.Pairwise.imp_of_mem ?_ (hs.and hn)
  intro a b ha hb' h
  have h1 : llt (p.drop b) (p.drop a) = false := by simpa [le] using h.1
  rcases llt_tri (p.drop a) (p.drop b) with t | t | t
  · exact t
  · exact absurd (drop_inj (Nat.le_of_lt (hb a ha)) (Nat.le_of_lt (hb b hb')) t) h.2
  · rw [h1] at t; cases t
noncomputable def sufOf (p : List Int) : List Nat := Classical.choose (suf_ex p)
theorem sufOf_is (p : List Int) : IsSuf p (sufOf p) := Classical.choose_spec (suf_ex p)
theorem sufOf_eq {p : List Int} {l : List Nat} (h : IsSuf p l) : l = sufOf p := suf_unique h (sufOf_is p)

/-! comparing lists -/
def lcmp : List Int → List Int → Int
  | [], [] => 0
  | [], _ :: _ => -1
  | _ :: _, [] => 1
  | x :: a, y :: b => if sgn x y ≠ 0 then sgn x y else lcmp a b
theorem sgn_cases (a b : Int) : (a < b ∧ sgn a b = -1) ∨ (a = b ∧ sgn a b = 0) ∨ (b < a ∧ sgn a b = 1) := by
  unfold sgn
  rcases Int.lt_trichotomy a b with h | h | h
  · rw [if_pos h]; exact .inl ⟨h, rfl⟩
  · rw [if_neg (by omega), if_neg (by omega)]; exact .inr (.inl ⟨h, rfl⟩)
  · rw [if_neg (by omega), if_pos h]; exact .inr (.inr ⟨h, rfl⟩)
theorem lcmp_ge : ∀ a b : List Int, decide (lcmp a b ≥ 0) = !llt a b
  | [], [] => rfl
  | [], _ :: _ => rfl
  | _ :: _, [] => rfl
  | x :: a, y :: b => by
    have ih := lcmp_ge a b
    rw [lcmp, llt]
    rcases sgn_cases x y with ⟨h, e⟩ | ⟨h, e⟩ | ⟨h, e⟩
    · rw [e, if_pos (by decide), decide_eq_true h]; rfl
    · subst h
      rw [e, if_neg (by decide), ih]; simp
    · rw [e, if_pos (by decide), decide_eq_false (show ¬ x < y by omega), decide_eq_false (show ¬ x = y by omega)]; rfl
theorem lcmp_gt : ∀ a b : List Int, decide (lcmp a b > 0) = llt b a
  | [], [] => rfl
  | [], _ :: _ => rfl
  | _ :: _, [] => rfl
  | x :: a, y :: b => by
    have ih := lcmp_gt a b
    rw [lcmp, llt]
    rcases sgn_cases x y with ⟨h, e⟩ | ⟨h, e⟩ | ⟨h, e⟩
    · rw [e, if_pos (by decide), decide_eq_false (show ¬ y < x by omega), decide_eq_false (show ¬ y = x by omega)]; rfl
    · subst h
      rw [e, if_neg (by decide), ih]; simp
    · rw [e, if_pos (by decide), decide_eq_true h]; rfl
theorem lcmp_drop {a b : List Int} {k : Nat} (ha : k < a.length) (hb : k < b.length) : lcmp (a.drop k) (b.drop k) = if sgn (a.getD k 0) (b.getD k 0) ≠ 0 then sgn (a.getD k 0) (b.getD k 0) else lcmp (a.drop (k + 1)) (b.drop (k + 1)) := by
  rw [List.drop_eq_getElem_cons ha, List.drop_eq_getElem_cons hb, List.getD_eq_getElem?_getD, List.getElem?_eq_getElem ha, List.getD_eq_getElem?_getD, List.getElem?_eq_getElem hb, lcmp]
  rfl
theorem lcmp_end1 {a b : List Int} {k : Nat} (ha : k < a.length) (hb : b.length ≤ k) : lcmp (a.drop k) (b.drop k) = 1 := by
  rw [List.drop_eq_getElem_cons ha, List.drop_of_length_le hb]; rfl
theorem lcmp_end2 {a b : List Int} {k : Nat} (ha : a.length ≤ k) (hb : k < b.length) : lcmp (a.drop k) (b.drop k) = -1 := by
  rw [List.drop_eq_getElem_cons hb, List.drop_of_length_le ha]; rfl
theorem lcmp_end0 {a b : List Int} {k : Nat} (ha : a.length ≤ k) (hb : b.length ≤ k) : lcmp (a.drop k) (b.drop k) = 0 := by
  rw [List.drop_of_length_le hb, List.drop_of_length_le ha]; rfl

/-! a search -/
theorem search_end {n i : Nat} {q : Nat → Bool} (hi : i ≤ n) (h1 : ∀ k, k < i → q k = false) (h2 : ∀ k, i ≤ k → k < n → q k = true) : (List.range n).countP (fun k => !q k) = i := by
  obtain ⟨m, rfl⟩ : ∃ m, n = i + m := ⟨n - i, by omega⟩
  rw [List.range_add, List.countP_append]
  have e1 : (List.range i).countP (fun k => !q k) = i := by
    have : (List.range i).countP (fun k => !q k) = (List.range i).length := by
      rw [List.countP_eq_length]
      intro a ha
      rw [h1 a (List.mem_range.1 ha)]; rfl
    rw [this, List.length_range]
  have e2 : ((List.range m).map (i + ·)).countP (fun k => !q k) = 0 := by
    rw [List.countP_eq_zero]
    intro a ha
    obtain ⟨b, hb, rfl⟩ := List.mem_map.1 ha
    rw [h2 (i + b) (by omega) (by have := List.mem_range.1 hb; omega)]
    simp
  rw [e1, e2, Nat.add_zero]

/-! neighbours change places -/
theorem getD_mid {A B : List Nat} {k j : Nat} (hj : j = A.length) : (A ++ k :: B).getD j 0 = k := by
  subst hj
  rw [List.getD_eq_getElem?_getD, List.getElem?_append_right (Nat.le_refl _), Nat.sub_self]; rfl
theorem set_mid {A B : List Nat} {k x j : Nat} (hj : j = A.length) : (A ++ k :: B).set j x = A ++ x :: B := by
  subst hj
  rw [List.set_append_right _ _ (Nat.le_refl _), Nat.sub_self]; rfl
theorem swap_mid {A B : List Nat} {a k j : Nat} (hj : j = A.length + 1) : (((A ++ [a]) ++ k :: B).set j ((A ++ [a] ++ k :: B).getD (j - 1) 0)).set (j - 1) ((A ++ [a] ++ k :: B).getD j 0) = A ++ k :: a :: B := by
  have e1 : (A ++ [a] ++ k :: B).getD (j - 1) 0 = a := by rw [List.append_assoc, List.singleton_append]; exact getD_mid (by omega)
  have e2 : (A ++ [a] ++ k :: B).getD j 0 = k := getD_mid (by simp; omega)
  rw [e1, e2, set_mid (A := A ++ [a]) (by simp; omega), List.append_assoc, List.singleton_append, set_mid (by omega)]
theorem last_of {A : List Nat} (h : 0 < A.length) : ∃ A' a, A = A' ++ [a] := by
  rcases List.eq_nil_or_concat A with rfl | ⟨A', a, rfl⟩
  · simp at h
  · exact ⟨A', a, by simp⟩
theorem pre_cut {p : List Int} {m i : Nat} (hi : i ≤ p.length) : (p.drop i).take (min p.length (i + m) - i) = pre p m i := by
  unfold pre
  rcases Nat.le_total p.length (i + m) with h | h
  · rw [Nat.min_eq_left h, List.take_of_length_le (by simp), List.take_of_length_le (by simp; omega)]
  · rw [Nat.min_eq_right h, show i + m - i = m by omega]
def placesTo (p part : List Int) (k : Nat) : List Nat := (List.range k).filter fun i => decide (pre p part.length i = part)
theorem placesTo_zero (p part : List Int) : placesTo p part 0 = [] := rfl
theorem placesTo_end (p part : List Int) : placesTo p part p.length = placesOf p part := rfl
theorem placesTo_t {p part : List Int} {k : Nat} (h : pre p part.length k = part) : placesTo p part (k + 1) = placesTo p part k ++ [k] := by
  unfold placesTo
  rw [List.range_succ, List.filter_append]
  simp [h]
theorem placesTo_f {p part : List Int} {k : Nat} (h : pre p part.length k ≠ part) : placesTo p part (k + 1) = placesTo p part k := by
  unfold placesTo
  rw [List.range_succ, List.filter_append]
  simp [h]
theorem placesTo_len (p part : List Int) (k : Nat) : (placesTo p part k).length ≤ k := by
  unfold placesTo
  have := List.length_filter_le (fun i => decide (pre p part.length i = part)) (List.range k)
  rwa [List.length_range] at this
end Go.J

/-
  (YtgikcbfdonjggaaGreatDoorConP)
  Sentences and where words follow one another in them: plain facts, no program stands here.
  Conditions: none.
-/
namespace Go.J
open Go

def sentF (s : List Str) (a : Int) : Int × Int := if s.length = 0 ∨ 12 < s.length then (9, a) else if s.all isWord then (0, 0) else (10, a)
def conFrom : Int → List (List Str) → Int × Int
  | _, [] => (0, 0)
  | k, s :: l => if (sentF s k).1 ≠ 0 then sentF s k else conFrom (k + 1) l
def conF (l : List (List Str)) : Int × Int := if 100 < l.length then (2, -1) else conFrom 0 l
def partFrom : Int → List Str → Int × Int
  | _, [] => (0, 0)
  | k, w :: p => if isWord w then partFrom (k + 1) p else (10, k)
def partF (p : List Str) : Int × Int := if p.length = 0 ∨ 12 < p.length then (9, -1) else partFrom 0 p

theorem all_drop {s : List Str} {k : Nat} {w : Str} (q : Str → Bool) (h : s[k]? = some w) : (s.drop k).all q = (q w && (s.drop (k + 1)).all q) := by rw [drop_of_some h]; rfl
theorem partFrom_step {p : List Str} {k : Nat} {w : Str} (h : p[k]? = some w) : partFrom k (p.drop k) = if isWord w then partFrom ((k + 1 : Nat) : Int) (p.drop (k + 1)) else (10, (k : Int)) := by
  rw [drop_of_some h, partFrom, Int.natCast_add]; rfl
theorem conFrom_step {l : List (List Str)} {k : Nat} {s : List Str} (h : l[k]? = some s) : conFrom k (l.drop k) = if (sentF s k).1 ≠ 0 then sentF s k else conFrom ((k + 1 : Nat) : Int) (l.drop (k + 1)) := by
  rw [drop_of_some h, conFrom, Int.natCast_add]; rfl
theorem sentF_ok {s : List Str} {a : Int} (h : (sentF s a).1 = 0) : 0 < s.length ∧ s.length ≤ 12 ∧ s.all isWord = true := by
  unfold sentF at h
  split at h
  · cases h
  · split at h
    · rename_i h1 h2; exact ⟨by omega, by omega, h2⟩
    · cases h
theorem sentF_ok' {s : List Str} {a : Int} (h : (sentF s a).1 = 0) : sentF s a = (0, 0) := by
  obtain ⟨h1, h2, h3⟩ := sentF_ok h
  unfold sentF
  rw [if_neg (by omega), if_pos h3]
theorem conFrom_ok : ∀ {l : List (List Str)} {k : Int}, (conFrom k l).1 = 0 → conFrom k l = (0, 0) ∧ ∀ s ∈ l, 0 < s.length ∧ s.length ≤ 12 ∧ s.all isWord = true
  | [], k, _ => ⟨rfl, fun s h => by cases h⟩
  | s :: l, k, h => by
    unfold conFrom at h ⊢
    by_cases h1 : (sentF s k).1 ≠ 0
    · rw [if_pos h1] at h; exact absurd h h1
    · rw [if_neg h1] at h ⊢
      obtain ⟨q1, q2⟩ := conFrom_ok h
      refine ⟨q1, fun x hx => ?_⟩
      rcases List.mem_cons.1 hx with rfl | hx
      · exact sentF_ok (Classical.not_not.1 h1)
      · exact q2 x hx
structure Corp (l : List (List Str)) : Prop where
  len : l.length ≤ 100
  each : ∀ s ∈ l, 0 < s.length ∧ s.length ≤ 12 ∧ s.all isWord = true
theorem conF_ok {l : List (List Str)} (h : (conF l).1 = 0) : conF l = (0, 0) ∧ Corp l := by
  unfold conF at h ⊢
  by_cases h1 : 100 < l.length
  · rw [if_pos h1] at h; cases h
  · rw [if_neg h1] at h ⊢
    obtain ⟨q1, q2⟩ := conFrom_ok h
    exact ⟨q1, by omega, q2⟩
theorem Corp.nil : Corp [] := ⟨by simp, fun s h => by cases h⟩
theorem partFrom_ok : ∀ {p : List Str} {k : Int}, (partFrom k p).1 = 0 → partFrom k p = (0, 0) ∧ p.all isWord = true
  | [], k, _ => ⟨rfl, rfl⟩
  | w :: p, k, h => by
    unfold partFrom at h ⊢
    split at h
    · rename_i h1
      obtain ⟨q1, q2⟩ := partFrom_ok h
      rw [if_pos h1]
      exact ⟨q1, by simp [h1, q2]⟩
    · cases h
theorem partF_ok {p : List Str} (h : (partF p).1 = 0) : partF p = (0, 0) ∧ 0 < p.length ∧ p.length ≤ 12 ∧ p.all isWord = true := by
  unfold partF at h ⊢
  split at h
  · cases h
  · rename_i h1
    obtain ⟨q1, q2⟩ := partFrom_ok h
    rw [if_neg h1]
    exact ⟨q1, by omega, by omega, q2⟩

/-- the words p stand at place k of s -/
def standsAt (s : List Str) (k : Nat) (p : List Str) : Bool := decide ((s.drop k).take p.length = p)
theorem standsAt_iff {s p : List Str} {k : Nat} (hk : k ≤ s.length) : standsAt s k p = true ↔ k + p.length ≤ s.length ∧ ∀ j, j < p.length → s[k + j]? = p[j]? := by
  unfold standsAt
  rw [decide_eq_true_eq]
  constructor
  · intro h
    have hl := congrArg List.length h
    simp only [List.length_take, List.length_drop] at hl
    refine ⟨by omega, fun j hj => ?_⟩
    have := congrArg (fun l => l[j]?) h
    simp only [List.getElem?_take, List.getElem?_drop, if_pos hj] at this
    exact this
  · rintro ⟨h1, h2⟩
    apply List.ext_getElem?
    intro j
    rw [List.getElem?_take, List.getElem?_drop]
    split
    · rename_i hj; exact h2 j hj
    · rename_i hj; rw [List.getElem?_eq_none (by omega)]
/-- where the words p stand in the sentence i -/
def hitsIn (p : List Str) (i : Nat) (s : List Str) : List (Nat × Nat) := ((List.range s.length).filter fun k => standsAt s k p).map fun k => (i, k)
def hitsFrom (p : List Str) : Nat → List (List Str) → List (Nat × Nat)
  | _, [] => []
  | i, s :: l => hitsIn p i s ++ hitsFrom p (i + 1) l
def hitsOf (l : List (List Str)) (p : List Str) : List (Nat × Nat) := hitsFrom p 0 l
theorem hitsFrom_append (p : List Str) : ∀ (a b : List (List Str)) (i : Nat), hitsFrom p i (a ++ b) = hitsFrom p i a ++ hitsFrom p (i + a.length) b
  | [], b, i => by simp [hitsFrom]
  | s :: a, b, i => by
    simp only [List.cons_append, hitsFrom, hitsFrom_append p a b (i + 1), List.append_assoc, List.length_cons]
    rw [show i + 1 + a.length = i + (a.length + 1) by omega]
theorem hitsFrom_shift (p : List Str) : ∀ (l : List (List Str)) (i j : Nat), hitsFrom p (i + j) l = (hitsFrom p i l).map fun h => (h.1 + j, h.2)
  | [], i, j => rfl
  | s :: l, i, j => by
    simp only [hitsFrom, List.map_append]
    rw [show i + j + 1 = i + 1 + j by omega, hitsFrom_shift p l (i + 1) j]
    congr 1
    simp [hitsIn, List.map_map, Function.comp_def]
theorem hitsOf_append (p : List Str) (a b : List (List Str)) : hitsOf (a ++ b) p = hitsOf a p ++ (hitsOf b p).map fun h => (h.1 + a.length, h.2) := by
  unfold hitsOf
  rw [hitsFrom_append, hitsFrom_shift]
theorem hitsFrom_mem {p : List Str} : ∀ {l : List (List Str)} {i : Nat} {h : Nat × Nat}, h ∈ hitsFrom p i l → ∃ s, i ≤ h.1 ∧ l[h.1 - i]? = some s ∧ h.2 < s.length ∧ standsAt s h.2 p = true
  | [], i, h, hh => by cases hh
  | s :: l, i, h, hh => by
    rcases List.mem_append.1 hh with q | q
    · obtain ⟨k, hk, rfl⟩ := List.mem_map.1 q
      obtain ⟨k1, k2⟩ := List.mem_filter.1 hk
      exact ⟨s, Nat.le_refl _, by simp, List.mem_range.1 k1, k2⟩
    · obtain ⟨s', h1, h2, h3, h4⟩ := hitsFrom_mem q
      refine ⟨s', by omega, ?_, h3, h4⟩
      rw [show h.1 - i = (h.1 - (i + 1)) + 1 by omega]
      exact h2
theorem hitsOf_mem {p : List Str} {l : List (List Str)} {h : Nat × Nat} (hh : h ∈ hitsOf l p) : ∃ s, l[h.1]? = some s ∧ h.2 < s.length ∧ standsAt s h.2 p = true := by
  obtain ⟨s, _, h2, h3, h4⟩ := hitsFrom_mem hh
  exact ⟨s, h2, h3, h4⟩

/-! ### the sentences as numbers -/
def ptsOf (f : Str → Nat) (l : List (List Str)) : List Nat := l.flatMap fun s => s.map f ++ [0]
def plcFrom : Nat → List (List Str) → List (Nat × Nat)
  | _, [] => []
  | i, s :: l => (List.range (s.length + 1)).map (fun k => (i, k)) ++ plcFrom (i + 1) l
theorem plc_length (f : Str → Nat) : ∀ (l : List (List Str)) (i : Nat), (plcFrom i l).length = (ptsOf f l).length
  | [], _ => rfl
  | s :: l, i => by
    have := plc_length f l (i + 1)
    simp only [plcFrom, ptsOf, List.flatMap_cons, List.length_append, List.length_map, List.length_range, List.length_singleton] at this ⊢
    omega
/-- the places at which q stands -/
def hz {β : Type} (q : List Nat) : List Nat → List β → List β
  | x :: pts, z :: zs => if (x :: pts).take q.length = q then z :: hz q pts zs else hz q pts zs
  | _, _ => []
theorem hz_cons {β : Type} {q : List Nat} {x : Nat} {pts : List Nat} {z : β} {zs : List β} : hz q (x :: pts) (z :: zs) = if (x :: pts).take q.length = q then z :: hz q pts zs else hz q pts zs := by rw [hz]
theorem hz_eq {β : Type} (q : List Nat) (hq : q ≠ []) (d : β) : ∀ (pts : List Nat) (zs : List β), pts.length = zs.length → ((List.range pts.length).filter fun i => decide ((pts.drop i).take q.length = q)).map (fun i => zs.getD i d) = hz q pts zs
  | [], zs, _ => by simp [hz]
  | x :: pts, [], h => by simp at h
  | x :: pts, z :: zs, h => by
    have ih := hz_eq q hq d pts zs (by simpa using h)
    rw [List.length_cons, List.range_succ_eq_map, List.filter_cons, List.filter_map]
    have e : ((List.range pts.length).filter ((fun i => decide (((x :: pts).drop i).take q.length = q)) ∘ Nat.succ)).map (fun i => (z :: zs).getD (i + 1) d) = hz q pts zs := by
      rw [← ih]
      congr 1
    simp only [List.drop_zero]
    rw [hz_cons]
    by_cases h1 : (x :: pts).take q.length = q
    · rw [if_pos (by simpa using h1), if_pos h1, List.map_cons, List.map_map]
      show _ :: ((List.range pts.length).filter _).map _ = _
      rw [← e]
      rfl
    · rw [if_neg (by simpa using h1), if_neg h1, List.map_map]
      rw [← e]
      rfl
theorem take_zero_mid {q a b : List Nat} (h0 : 0 ∉ q) : (a ++ 0 :: b).take q.length = q ↔ a.take q.length = q := by
  rcases Nat.lt_or_ge a.length q.length with h | h
  · constructor
    · intro e
      exfalso
      apply h0
      rw [← e]
      rw [List.take_append]
      refine List.mem_append_right _ ?_
      obtain ⟨k, hk⟩ : ∃ k, q.length - a.length = k + 1 := ⟨q.length - a.length - 1, by omega⟩
      rw [hk]; simp
    · intro e
      have := congrArg List.length e
      rw [List.length_take] at this
      omega
  · rw [List.take_append_of_le_length h]
theorem map_inj_of {f : Str → Nat} (hf : ∀ a b, f a = f b → f a ≠ 0 → a = b) : ∀ {a b : List Str}, a.map f = b.map f → (0 : Nat) ∉ b.map f → a = b
  | [], [], _, _ => rfl
  | [], _ :: _, h, _ => by simp at h
  | _ :: _, [], h, _ => by simp at h
  | x :: a, y :: b, h, h0 => by
    simp only [List.map_cons, List.cons.injEq, List.mem_cons, not_or] at h h0
    rw [hf x y h.1 (by rw [h.1]; exact fun e => h0.1 e.symm), map_inj_of hf h.2 h0.2]
theorem hz_sent {f : Str → Nat} (hf : ∀ a b, f a = f b → f a ≠ 0 → a = b) {p : List Str} (hp : p ≠ []) (h0 : 0 ∉ p.map f) (i : Nat) (rest : List Nat) (zs : List (Nat × Nat)) :
    ∀ (s : List Str) (k : Nat), hz (p.map f) (s.map f ++ 0 :: rest) ((List.range' k (s.length + 1)).map (fun k => (i, k)) ++ zs) = ((List.range' k s.length).filter (fun j => decide ((s.drop (j - k)).take p.length = p))).map (fun j => (i, j)) ++ hz (p.map f) rest zs
  | [], k => by
    simp only [List.map_nil, List.nil_append, List.length_nil, Nat.zero_add, List.range'_one, List.map_cons, List.cons_append, List.range'_zero, List.filter_nil, hz_cons]
    rw [if_neg]
    intro e
    have := (take_zero_mid (q := p.map f) (a := []) (b := rest) h0).1 e
    simp at this
    exact hp this
  | w :: s, k => by
    have ih := hz_sent hf hp h0 i rest zs s (k + 1)
    rw [List.length_cons, List.range'_succ (s := k) (n := s.length + 1), List.range'_succ (s := k) (n := s.length), List.map_cons, List.map_cons, List.cons_append, List.cons_append, List.filter_cons, hz_cons]
    have e1 : ((f w :: (s.map f ++ 0 :: rest)).take (p.map f).length = p.map f) ↔ (w :: s).take p.length = p := by
      have := take_zero_mid (q := p.map f) (a := (w :: s).map f) (b := rest) h0
      rw [List.map_cons, List.cons_append] at this
      rw [this, List.length_map, ← List.map_cons, ← List.map_take]
      exact ⟨fun e => map_inj_of hf e h0, fun e => by rw [e]⟩
    have e2 : ((List.range' (k + 1) s.length).filter fun j => decide (((w :: s).drop (j - k)).take p.length = p)) = (List.range' (k + 1) s.length).filter fun j => decide ((s.drop (j - (k + 1))).take p.length = p) := by
      apply List.filter_congr
      intro j hj
      have := (List.mem_range'_1.1 hj).1
      rw [show j - k = (j - (k + 1)) + 1 by omega, List.drop_succ_cons]
    rw [e2, Nat.sub_self, List.drop_zero]
    by_cases h1 : (w :: s).take p.length = p
    · rw [if_pos (e1.2 h1), if_pos (by simpa using h1), List.map_cons, List.cons_append, ih]
    · rw [if_neg (fun e => h1 (e1.1 e)), if_neg (by simpa using h1), ih]
theorem hz_hits {f : Str → Nat} (hf : ∀ a b, f a = f b → f a ≠ 0 → a = b) {p : List Str} (hp : p ≠ []) (h0 : 0 ∉ p.map f) : ∀ (l : List (List Str)) (i : Nat), hz (p.map f) (ptsOf f l) (plcFrom i l) = hitsFrom p i l
  | [], i => by unfold hz; rfl
  | s :: l, i => by
    have ih := hz_hits hf hp h0 l (i + 1)
    have e := hz_sent hf hp h0 i (ptsOf f l) (plcFrom (i + 1) l) s 0
    simp only [Nat.sub_zero, ← List.range_eq_range'] at e
    have e3 : ptsOf f (s :: l) = s.map f ++ 0 :: ptsOf f l := by simp [ptsOf]
    rw [e3, plcFrom, e, ih]
    rfl
theorem hits_none {f : Str → Nat} {p : List Str} (h0 : 0 ∈ p.map f) : ∀ (l : List (List Str)) (i : Nat), (∀ s ∈ l, ∀ w ∈ s, f w ≠ 0) → hitsFrom p i l = []
  | [], i, _ => rfl
  | s :: l, i, h => by
    rw [hitsFrom, hits_none h0 l (i + 1) fun x hx => h x (List.mem_cons_of_mem _ hx), List.append_nil]
    unfold hitsIn
    rw [List.map_eq_nil_iff, List.filter_eq_nil_iff]
    intro k _ hk
    obtain ⟨w, hw, hw0⟩ := List.mem_map.1 h0
    have e : (s.drop k).take p.length = p := by simpa [standsAt] using hk
    rw [← e] at hw
    exact h s (List.mem_cons_self ..) w (List.mem_of_mem_drop (List.mem_of_mem_take hw)) hw0

/-! ### numbers of words -/
def below (W : List Str) (w : Str) : Nat := W.countP fun x => Op.bytesLess x w
def numOf (W : List Str) (w : Str) : Nat := if W[below W w]? = some w then below W w + 1 else 0
theorem numOf_inj {W : List Str} : ∀ a b, numOf W a = numOf W b → numOf W a ≠ 0 → a = b := by
  intro a b h h0
  unfold numOf at h h0
  by_cases ha : W[below W a]? = some a
  · rw [if_pos ha] at h
    by_cases hb : W[below W b]? = some b
    · rw [if_pos hb] at h
      have : below W a = below W b := by omega
      rw [this] at ha
      rw [ha] at hb
      exact Option.some.inj hb
    · rw [if_neg hb] at h; omega
  · rw [if_neg ha] at h0; exact absurd rfl h0
theorem numOf_le (W : List Str) (w : Str) : numOf W w ≤ W.length := by
  unfold numOf
  split
  · rename_i h; have := (List.getElem?_eq_some_iff.1 h).1; omega
  · exact Nat.zero_le _
def SSt (W : List Str) : Prop := W.Pairwise fun a b => Op.bytesLess a b = true
theorem below_split {W A B : List Str} {w : Str} (hW : W = A ++ B) (hA : ∀ x ∈ A, Op.bytesLess x w = true) (hB : ∀ x ∈ B, Op.bytesLess x w = false) : below W w = A.length := by
  unfold below
  rw [hW, List.countP_append, List.countP_eq_length.2 (by simpa using hA), List.countP_eq_zero.2 (by intro x hx; rw [hB x hx]; decide)]
  rfl
theorem numOf_mem {W : List Str} (hs : SSt W) {w : Str} (hw : w ∈ W) : numOf W w ≠ 0 := by
  obtain ⟨A, B, hAB⟩ := List.append_of_mem hw
  unfold SSt at hs
  rw [hAB] at hs
  have h1 := List.pairwise_append.1 hs
  have h2 := List.pairwise_cons.1 h1.2.1
  have e := below_split hAB (fun x hx => h1.2.2 x hx w (List.mem_cons_self ..)) (fun x hx => by
    rcases List.mem_cons.1 hx with rfl | hx
    · exact slt_irrefl _
    · exact slt_asymm (h2.1 x hx))
  unfold numOf
  rw [e, hAB, List.getElem?_append_right (Nat.le_refl _), Nat.sub_self, List.getElem?_cons_zero, if_pos rfl]
  omega
/-- where a search ends -/
theorem below_at {W : List Str} (hs : SSt W) {w : Str} {k : Nat} (hk : k ≤ W.length) (h1 : ∀ j x, j < k → W[j]? = some x → Op.bytesLess x w = true) (h2 : ∀ j x, k ≤ j → W[j]? = some x → Op.bytesLess x w = false) : below W w = k := by
  have e := below_split (W := W) (A := W.take k) (B := W.drop k) (w := w) (List.take_append_drop k W).symm (fun x hx => by
    obtain ⟨j, hj, he⟩ := List.mem_iff_getElem.1 hx
    rw [List.length_take] at hj
    rw [List.getElem_take] at he
    exact h1 j x (by omega) (by rw [List.getElem?_eq_getElem (by omega), he])) (fun x hx => by
    obtain ⟨j, hj, he⟩ := List.mem_iff_getElem.1 hx
    rw [List.length_drop] at hj
    rw [List.getElem_drop] at he
    exact h2 (k + j) x (by omega) (by rw [List.getElem?_eq_getElem (by omega), he]))
  rw [e, List.length_take]; omega
theorem sst_lt {W : List Str} (hs : SSt W) {i j : Nat} {x y : Str} (hx : W[i]? = some x) (hy : W[j]? = some y) (hij : i < j) : Op.bytesLess x y = true := by
  obtain ⟨hi, rfl⟩ := List.getElem?_eq_some_iff.1 hx
  obtain ⟨hj, rfl⟩ := List.getElem?_eq_some_iff.1 hy
  exact List.pairwise_iff_getElem.1 hs i j hi hj hij
/-- the places of a part among the numbers are where the words stand -/
theorem find_hits {W : List Str} {l : List (List Str)} {p : List Str} (hp : p ≠ []) (h0 : 0 ∉ p.map (numOf W)) :
    ((List.range (ptsOf (numOf W) l).length).filter fun i => decide (((ptsOf (numOf W) l).drop i).take (p.map (numOf W)).length = p.map (numOf W))).map (fun i => (plcFrom 0 l).getD i (0, 0)) = hitsOf l p := by
  rw [hz_eq _ (by simpa using hp) _ _ _ (plc_length _ _ _).symm, hz_hits numOf_inj hp h0]
  rfl
end Go.J

/-
  (YtgikcbfdonjggaaGreatDoorJ14)
  The library's sort by a comparison of one's own, as a contract over a row that the call owns.
  Conditions: the comparison is a strict weak order, and a contract over data alone.
-/
namespace Go.J
open Go Go.Proofs Go.Shelf Go.RowKit Go.Lib Go.Sort

theorem Start.dats {ds : List Dat} {W : World} (hd : ∀ d ∈ ds, d.f (J.all W)) : Start (ds.map J.dat) (J.all W) W :=
  ⟨rfl, ⟨rfl, fun _ => Nat.le_refl _⟩, rfl, Nat.le_refl _, fun _ _ _ => rfl, fun _ _ h => h, Ro.le_refl _, fun _ _ _ => rfl, fun E hE => by
        obtain ⟨d, hd', rfl⟩ := List.mem_map.1 hE
        exact dat_ok.2 (hd d hd'),
      (fun E hE b hb => by
        obtain ⟨d, hd, rfl⟩ := List.mem_map.1 hE
        rw [dat_key] at hb; cases hb),
      by
        refine List.pairwise_map.2 (List.Pairwise.imp_of_mem (R := fun _ _ => True) ?_ (List.pairwise_of_forall fun _ _ => trivial))
        intro d d' _ _ _ b hb
        rw [dat_key] at hb; cases hb⟩

/-- a call over data alone lays blocks and draws, and does nothing else to the world -/
theorem FnV.grows {P : Program} {f : FuncId} {args : Array Value} {ds : List Dat} {v : Value} {W : World} (h : FnV P f args ds v) (hd : ∀ d ∈ ds, d.f (J.all W)) :
    Calls P f args W fun e w' => e = .returned v ∧ ∃ q os', w' = grow (W.drewN q) os' := by
  refine (h W (J.all W) (Start.dats hd)).mono ?_
  rintro e w' ⟨u, H', rfl, rfl, hm⟩
  obtain ⟨ρ', hm⟩ := hm.out
  refine ⟨rfl, w'.drawn - W.drawn, w'.heap.extract W.heap.size w'.heap.size, ?_⟩
  have h1 := hm.os
  have h2 := And.intro hm.tape.1 (hm.tape.2 trivial)
  have h3 := hm.output
  have h4 := hm.size
  have h5 : ∀ k, k < W.heap.size → w'.heap[k]? = W.heap[k]? := fun k hk => hm.old k hk (owns_dats ds k)
  clear hm
  cases w' with
  | mk heap' tape' drawn' os' out' =>
    cases W with
    | mk heap tape drawn os out =>
      simp only at h1 h2 h3 h4 h5
      simp only [grow, World.drewN, World.mk.injEq]
      refine ⟨?_, h2.1, by omega, h1, h3⟩
      apply Array.ext_getElem?
      intro i
      rw [Array.getElem?_append]
      split
      · rename_i hi; exact h5 i hi
      · rename_i hi
        rw [Array.getElem?_extract]
        split
        · congr 1; omega
        · rename_i h6
          rw [Array.getElem?_eq_none (by omega)]

section
variable {P : Program} {ρr : Ren} {α : Type} [Inhabited α]
theorem sortWorld_other (enc : α → Value) (w : World) (g0 m k : Nat) (dk : Array α) (os : Array Obj) (hk : k ≠ g0) (hl : k < w.heap.size) : (sortWorld enc w g0 0 m dk os).heap[k]? = w.heap[k]? := by
  unfold sortWorld grow putRow mapBlock
  simp only []
  rw [Array.getElem?_append_left (by simpa using hl), Array.getElem?_modify]
  rw [if_neg (fun e => hk e.symm)]
  rfl
theorem sortWorld_self (enc : α → Value) (w : World) (g0 m : Nat) (dk : Array α) (os : Array Obj) {cur : Array Value} {e : TypeId} {fr : Nat × Nat} (hg : w.heap[g0]? = some (.cells cur e fr)) :
    (sortWorld enc w g0 0 m dk os).heap[g0]? = some (.cells (putCells enc 0 dk cur) e fr) := by
  have hl := (Array.getElem?_eq_some_iff.1 hg).1
  have hg' : (Sort.ahead w m).heap[g0]? = some (.cells cur e fr) := hg
  unfold sortWorld grow putRow mapBlock
  simp only []
  rw [Array.getElem?_append_left (by simpa using hl), Array.getElem?_modify, if_pos rfl, hg']
  rfl

/-- behind a sort: the row holds what it holds now, all else is as it was -/
theorem Start.sorted {ds : List Dat} {enc : α → Value} {v : Value} {e : TypeId} {d : List α} {w : World} {ρ : Ro} (st : Start (ds.map dat ++ [row v e 1 d.length (d.map enc)]) ρ w) {g0 cap : Nat} {cur : Array Value}
    (hv : v = .slice (some ⟨g0, 0, none⟩) d.length cap) (hg : w.heap[g0]? = some (.cells cur e (0, 0))) (hnc : d.length ≤ cap) (hcm : cap ≤ maxLen) (hcs : cur.size = cap * 1) (htk : cur.toList.take (d.length * 1) = d.map enc) :
    Holds enc w g0 0 d.toArray ∧ g0 < w.heap.size ∧ (∀ (m : Nat) (os : Array Obj) (dk : Array α), Ro.le ρ (J.all (sortWorld enc w g0 0 m dk os))) ∧
      ∀ (n : Nat) (d' : Array α) (os : Array Obj), d'.size = d.length → Mm ⟨w, ρ, owns (ds.map dat ++ [row v e 1 d.length (d.map enc)]), True⟩ [row v e 1 d.length (d'.toList.map enc)] (sortWorld enc w g0 0 n d' os) := by
  have hblk := (Array.getElem?_eq_some_iff.1 hg).1
  have hρ : ρ g0 = Option.none := (st.own _ (List.mem_append_right _ (List.mem_singleton_self _)) g0 (by rw [row_key, hv]; rfl)).1
  have hcell : ∀ j (hj : j < d.length), cur[j]? = some (enc d[j]) := fun j hj => by
    have := congrArg (fun l => l[j]?) htk
    simp only [List.getElem?_take, List.getElem?_map, List.getElem?_eq_getElem hj, Option.map_some] at this
    rw [if_pos (by omega)] at this
    simpa using this
  have hle : ∀ (m : Nat) (os : Array Obj) (dk : Array α), Ro.le ρ (J.all (sortWorld enc w g0 0 m dk os)) := fun m os dk k o hk => by
    have h2 := st.fits k o hk
    have h3 : k ≠ g0 := by rintro rfl; rw [hρ] at hk; cases hk
    show (sortWorld enc w g0 0 m dk os).heap[k]? = some o
    rw [sortWorld_other enc w g0 m k dk os h3 (Array.getElem?_eq_some_iff.1 h2).1, h2]
  refine ⟨fun j hj => ?_, hblk, hle, fun n d' os hsz => Mm.mk (ρ := ρ) ⟨rfl, ⟨rfl, ?_⟩, rfl, ?_, ?_, ?_, Ro.le_refl _, fun _ _ _ => rfl, ?_, ?_, List.pairwise_singleton ..⟩⟩
  · have hj' : j < d.length := by simpa using hj
    refine ⟨?_, ?_⟩
    · rw [World.cell?, hg]
      simp only [Option.isSome_none, Bool.false_eq_true, if_false, Nat.zero_add]
      rw [hcell j hj', getElem!_pos d.toArray j hj]
      simp
    · rw [World.frozen?, hg]; simp
  · intro _; show w.drawn ≤ w.drawn + n; omega
  · unfold sortWorld grow; simp
  · intro k hk hM
    refine sortWorld_other enc w g0 n k d' os ?_ hk
    rintro rfl
    exact hM ⟨_, List.mem_append_right _ (List.mem_singleton_self _), by rw [row_key, hv]; rfl⟩
  · exact fun k o hk => hle n os d' k o hk
  · intro E hE
    rw [List.mem_singleton.1 hE]
    refine row_ok.2 ⟨by simp [hsz], .inr ⟨g0, cap, putCells enc 0 d' cur, hv, Nat.zero_le _, sortWorld_self enc w g0 n d' os hg, hnc, hcm, by simp [putCells, hcs], ?_⟩⟩
    apply List.ext_getElem?
    intro i
    simp only [putCells, List.getElem?_take, Array.getElem?_toList, Array.getElem?_mapIdx, List.getElem?_map]
    by_cases hi : i < d.length
    · have hi' : i < d'.size := by omega
      rw [if_pos (by omega), hcell i hi]
      simp only [Option.map_some, Nat.zero_le, true_and, Nat.zero_add, Nat.sub_zero]
      rw [if_pos hi', getElem!_pos d' i hi', Array.getElem?_eq_getElem hi']
      rfl
    · rw [if_neg (by omega), Array.getElem?_eq_none (by omega)]; rfl
  · intro E hE b hb
    rw [List.mem_singleton.1 hE] at hb
    have hb' : b = g0 := by rw [row_key, hv] at hb; simp [Value.ownBlock] at hb; exact hb.symm
    exact ⟨hb' ▸ hρ, .inr ⟨_, List.mem_append_right _ (List.mem_singleton_self _), by rw [row_key, hv, hb']; rfl⟩⟩
theorem Start.stays {ds : List Dat} {E : Ent} {w : World} {ρ : Ro} (st : Start (ds.map dat ++ [E]) ρ w) : Mm ⟨w, ρ, owns (ds.map dat ++ [E]), True⟩ [E] w := Mm.mk (MmR.perm st List.perm_append_comm).left

theorem sortFunc_spec (L : SlLaysF.n6 P ρr) (enc : α → Value) (h1 : OneCell enc) (cf : α → α → Int) (hO : SWO (ltOf cf)) (g : Nat) (cb : Array Value)
    (eg : ∀ args w, (callFunc g args).run P w = .ok (.enter g args) w) (ds : List Dat) (hcl : ∀ x y, FnV P g (#[enc x, enc y] ++ cb) ds (.int .i64 (cf x y))) (v : Value) (e : TypeId) (d : List α) (hlen : d.length < 4611686018427387904) :
    FnH P (ρr.f 6) #[v, .func (.func g) #[] cb] (ds.map dat ++ [row v e 1 d.length (d.map enc)])
      (fun u H' => u = .tuple #[] ∧ ∃ d' : List α, d'.Perm d ∧ d'.Pairwise (fun a b => ltOf cf b a = false) ∧ H' = [row v e 1 d.length (d'.map enc)]) := by
  intro w ρ st
  have hrow := row_ok.1 (st.ents _ (List.mem_append_right _ (List.mem_singleton_self _)))
  have hfacts : ∀ x ∈ ds, x.f ρ := fun x hx => dat_ok.1 (st.ents _ (List.mem_append_left _ (List.mem_map_of_mem hx)))
  have none : ∀ (p : Option Addr) (cap : Nat), v = .slice p 0 cap → d = [] → Calls P (ρr.f 6) #[v, .func (.func g) #[] cb] w fun e_1 w' => ∃ v_1 H', e_1 = .returned v_1 ∧
      (v_1 = .tuple #[] ∧ ∃ d' : List α, d'.Perm d ∧ d'.Pairwise (fun a b => ltOf cf b a = false) ∧ H' = [row v e 1 d.length (d'.map enc)]) ∧ Mm ⟨w, ρ, owns (ds.map dat ++ [row v e 1 d.length (d.map enc)]), True⟩ H' w' := by
    intro p cap hv hd0
    have hc := AnyF.slices_SortFunc_none (P := P) (ρ := ρr) { L with } p cap (.func (.func g) #[] cb) w
    rw [← hv] at hc
    refine hc.mono ?_
    rintro e' w' ⟨rfl, rfl⟩
    exact ⟨_, _, rfl, ⟨rfl, d, .refl _, (by rw [hd0]; exact .nil), rfl⟩, st.stays⟩
  rcases hrow.2 with ⟨hv, hn⟩ | ⟨g0, cap, cur, hv, _, hg, hnc, hcm, hcs, htk⟩
  · exact none _ _ hv (List.eq_nil_of_length_eq_zero hn)
  · by_cases hz : d.length = 0
    · rw [hz] at hv; exact none _ _ hv (List.eq_nil_of_length_eq_zero hz)
    · obtain ⟨hH, hblk, hle, hend⟩ := Start.sorted st hv hg hnc hcm hcs htk
      have hcmp : CmpLays1 P g cb enc cf g0 0 d.toArray.size w := fun m os dk _ x y => (hcl x y).grows fun x hx => x.mono _ _ (hle m os dk) (hfacts x hx)
      have main := Any.slices_SortFunc L enc h1 cf hO g cb g0 0 cap d.toArray w eg hcmp hH hblk (by simpa using hlen)
      have hv' : v = .slice (some ⟨g0, 0, Option.none⟩) d.toArray.size cap := by rw [hv]; simp
      rw [← hv'] at main
      refine main.mono ?_
      rintro e' w' ⟨rfl, d', n, os, ⟨hs, _, hp⟩, hsort, rfl⟩
      have hsz : d'.size = d.length := by simpa using hs
      have hperm : d'.toList.Perm d := by
        have e1 : d'.extract 0 d.toArray.size = d' := by rw [← hs]; simp
        have e2 : d.toArray.extract 0 d.toArray.size = d.toArray := by simp
        rw [e1, e2] at hp
        simpa using hp
      refine ⟨_, _, rfl, ⟨rfl, d'.toList, hperm, ?_, rfl⟩, hend n d' os hsz⟩
      rw [List.pairwise_iff_getElem]
      intro i j hi hj hij
      have hi' : i < d'.size := by simpa using hi
      have hj' : j < d'.size := by simpa using hj
      have := hsort i j (Nat.zero_le _) hij (by rw [← hs]; exact hj')
      rw [getElem!_pos d' i hi', getElem!_pos d' j hj'] at this
      simpa using this
end
end Go.J

/-
  (YtgikcbfdonjggaaGreatDoorJ15a)
  Facts in one: a contract over several facts as a contract over their conjunction; the sort of whatever values by their numbers.
  Conditions: none; everything holds of any program.
-/
namespace Go.J
open Go Go.Proofs Go.Shelf Go.RowKit Go.Lib Go.Sort

/-- these facts, as one -/
def allD (ds : List Dat) : Dat := ⟨fun ρ => ∀ d ∈ ds, d.f ρ, fun _ _ h k d hd => d.mono _ _ h (k d hd)⟩
theorem owns_none {H : List Ent} (h : ∀ E ∈ H, E.key = none) (b : Nat) : ¬ owns H b := by
  rintro ⟨E, hE, hb⟩; rw [h E hE] at hb; cases hb
theorem FnV.all {P : Program} {f : FuncId} {args : Array Value} {ds : List Dat} {v : Value} (h : FnV P f args ds v) : FnV P f args [allD ds] v := by
  intro w ρ st
  have hf : ∀ d ∈ ds, d.f ρ := dat_ok.1 (st.ents (dat (allD ds)) (by simp))
  have e : owns (ds.map dat) = owns ([allD ds].map dat) := by
    funext b
    apply propext
    constructor
    · intro h; exact absurd h (owns_dats ds b)
    · intro h; exact absurd h (owns_dats [allD ds] b)
  have st0 : MmR ⟨w, ρ, owns ([allD ds].map dat), True⟩ [] ρ w := MmR.drop st
  have st2 : Start (ds.map dat) ρ w := by
    have := st0.dats ds hf
    rw [List.append_nil] at this
    unfold Start
    rw [e]
    exact this
  have := h w ρ st2
  rw [e] at this
  exact this
/-- a contract over facts that follow from others -/
theorem FnV.weak {P : Program} {f : FuncId} {args : Array Value} {ds ds' : List Dat} {v : Value} (h : FnV P f args ds v) (hi : ∀ ρ, (∀ d ∈ ds', d.f ρ) → ∀ d ∈ ds, d.f ρ) : FnV P f args ds' v := by
  intro w ρ st
  have hf : ∀ d ∈ ds', d.f ρ := fun d hd => dat_ok.1 (st.ents (dat d) (List.mem_map_of_mem hd))
  have e : owns (ds.map dat) = owns (ds'.map dat) := by
    funext b
    apply propext
    exact ⟨fun h => absurd h (owns_dats ds b), fun h => absurd h (owns_dats ds' b)⟩
  have st0 : MmR ⟨w, ρ, owns (ds'.map dat), True⟩ [] ρ w := by
    have : ∀ (l : List Dat), MmR ⟨w, ρ, owns (ds'.map dat), True⟩ (l.map dat) ρ w → MmR ⟨w, ρ, owns (ds'.map dat), True⟩ [] ρ w := by
      intro l
      induction l with
      | nil => exact fun h => h
      | cons d l ih => exact fun h => ih h.drop
    exact this ds' st
  have st2 : Start (ds.map dat) ρ w := by
    have := st0.dats ds (hi ρ hf)
    rw [List.append_nil] at this
    unfold Start
    rw [e]
    exact this
  have := h w ρ st2
  rw [e] at this
  exact this
theorem LentO.allD {c : Ctx} {L R : List Ent} {ds : List Dat} (h : LentO c L R ds) : LentO c L R [J.allD ds] := fun ρ w hm d hd => by
  rw [List.mem_singleton.1 hd]
  exact fun d' hd' => h ρ w hm d' hd'
theorem Lent.allD {c : Ctx} {H : List Ent} {ds : List Dat} (h : Lent c H ds) : Lent c H [J.allD ds] := fun ρ w hm d hd => by
  rw [List.mem_singleton.1 hd]
  exact fun d' hd' => h ρ w hm d' hd'

theorem St.cast {n : Nat} {F : Fr} {c : Ctx} {H H' : List Ent} {T : Act → World → Prop} (h : H = H') (k : St n F (Mm c H') T) : St n F (Mm c H) T := by rw [h]; exact k
section
variable {P : Program} {ρr : Ren}
theorem sortFunc_nil (L : SlLaysF.n6 P ρr) (fv v : Value) (e : TypeId) (D : Dat) : FnH P (ρr.f 6) #[v, fv] ([D].map dat ++ [row v e 1 0 []]) (fun u H' => u = .tuple #[] ∧ H' = [row v e 1 0 []]) := by
  intro w ρ st
  have hrow := row_ok.1 (st.ents (row v e 1 0 []) (List.mem_append_right _ (List.mem_singleton_self _)))
  have none : ∀ (p : Option Addr) (cap : Nat), v = .slice p 0 cap → Calls P (ρr.f 6) #[v, fv] w fun e_1 w' => ∃ v_1 H', e_1 = .returned v_1 ∧ (v_1 = .tuple #[] ∧ H' = [row v e 1 0 []]) ∧ Mm ⟨w, ρ, owns ([D].map dat ++ [row v e 1 0 []]), True⟩ H' w' := by
    intro p cap hv
    have hc := AnyF.slices_SortFunc_none (P := P) (ρ := ρr) { L with } p cap fv w
    rw [← hv] at hc
    refine hc.mono ?_
    rintro e' w' ⟨rfl, rfl⟩
    exact ⟨_, _, rfl, ⟨rfl, rfl⟩, st.stays⟩
  rcases hrow.2 with ⟨hv, _⟩ | ⟨g0, cap, cur, hv, _⟩
  · exact none _ _ hv
  · exact none _ _ hv
/-- m values, sorted by a comparison of their numbers -/
theorem sortIdx_spec (L : SlLaysF.n6 P ρr) {m : Nat} (enc : Nat → Value) (h1 : ∀ i, i < m → (enc i).oneCell' = true) (cf : Nat → Nat → Int) (hirr : ∀ a, a < m → ¬ cf a a < 0) (htr : ∀ a b c, a < m → b < m → c < m → cf a b < 0 → cf b c < 0 → cf a c < 0)
    (hnt : ∀ a b c, a < m → b < m → c < m → ¬ cf a b < 0 → ¬ cf b c < 0 → ¬ cf a c < 0) (g : Nat) (hcb : Callable P g) (caps : List Value) (D : Dat)
    (hcl : ∀ a b, a < m → b < m → FnV P g ([enc a, enc b] ++ caps).toArray [D] (iv (cf a b))) (v : Value) (e : TypeId) (hm : m < 4611686018427387904) :
    FnH P (ρr.f 6) #[v, .func (.func g) #[] caps.toArray] ([D].map dat ++ [row v e 1 m ((List.range m).map enc)]) (fun u H' => u = .tuple #[] ∧ ∃ l : List Nat, l.Perm (List.range m) ∧ l.Pairwise (fun a b => ¬ cf b a < 0) ∧ H' = [row v e 1 m (l.map enc)]) := by
  rcases Nat.eq_zero_or_pos m with rfl | hpos
  · exact (sortFunc_nil L (.func (.func g) #[] caps.toArray) v e D).mono fun u H' ⟨h1, h2⟩ => ⟨h1, [], List.Perm.refl _, List.Pairwise.nil, h2⟩
  · haveI : Inhabited { i : Nat // i < m } := ⟨⟨0, hpos⟩⟩
    let d : List { i : Nat // i < m } := (List.range m).attach.map fun x => ⟨x.1, List.mem_range.1 x.2⟩
    have hdl : d.length = m := by simp [d]
    have hde : d.map (fun x => x.1) = List.range m := by simp [d, List.map_map, Function.comp_def]
    have hcs : d.map (fun x => enc x.1) = (List.range m).map enc := by rw [← hde]; simp [List.map_map, Function.comp_def]
    have hO : SWO (ltOf fun (x y : { i : Nat // i < m }) => cf x.1 y.1) := by
      refine ⟨fun x => decide_eq_false (hirr x.1 x.2), fun x y z h1 h2 => decide_eq_true (htr _ _ _ x.2 y.2 z.2 (of_decide_eq_true h1) (of_decide_eq_true h2)), fun x y z h1 h2 => decide_eq_false (hnt _ _ _ x.2 y.2 z.2 (of_decide_eq_false h1) (of_decide_eq_false h2))⟩
    have main := sortFunc_spec L (fun x : { i : Nat // i < m } => enc x.1) (fun x => h1 x.1 x.2) (fun x y => cf x.1 y.1) hO g caps.toArray (fun args w => hcb.run) [D] (fun x y => by have := hcl x.1 y.1 x.2 y.2; simpa using this) v e d (by omega)
    rw [hdl, hcs] at main
    refine main.mono ?_
    rintro u H' ⟨hu, d', hp, hs, hH⟩
    refine ⟨hu, d'.map (fun x => x.1), ?_, ?_, ?_⟩
    · have := hp.map (fun x => x.1); rw [hde] at this; exact this
    · rw [List.pairwise_map]
      exact hs.imp fun h => of_decide_eq_false h
    · rw [hH]; simp [List.map_map, Function.comp_def]
end
end Go.J

/-
  (YtgikcbfdonjggaaGreatDoorJ15)
  The sort over numbers below a bound.
  Conditions: none; everything holds of any program.
-/
namespace Go.J
open Go Go.Proofs Go.Shelf Go.RowKit Go.Lib Go.Sort

theorem rows_intR (xs : List Int) : rows intR xs = xs.map (fun x => iv x) := by
  induction xs with
  | nil => rfl
  | cons x xs ih => simp only [rows, List.flatMap_cons, List.map_cons] at ih ⊢; rw [ih]; rfl
/-- the numbers of a list -/
abbrev ints (l : List Nat) : List Int := l.map (fun i : Nat => (i : Int))
theorem ints_getD (l : List Nat) (k : Nat) : (ints l).getD k 0 = (l.getD k 0 : Int) := by
  rw [List.getD_eq_getElem?_getD, List.getD_eq_getElem?_getD, List.getElem?_map]
  cases l[k]? <;> rfl

section
variable {P : Program} {ρr : Ren}
/-- numbers below n, sorted by a comparison of keys -/
theorem sortKeys_spec (L : SlLaysF.n6 P ρr) {n : Nat} {key : Nat → List Int} {cf : Nat → Nat → Int} (hK : KeyCmp n key cf) (g : Nat) (hcb : Callable P g) (caps : List Value) (D : Dat)
    (hcl : ∀ a b, a < n → b < n → FnV P g ([iv a, iv b] ++ caps).toArray [D] (iv (cf a b))) (v : Value) (e : TypeId) (l0 : List Nat) (hp0 : l0.Perm (List.range n)) (hn : n < 4611686018427387904) :
    FnH P (ρr.f 6) #[v, .func (.func g) #[] caps.toArray] ([D].map dat ++ [row v e 1 n (rows intR (ints l0))]) (fun u H' => u = .tuple #[] ∧ ∃ l : List Nat, l.Perm (List.range n) ∧ Sorted cf l ∧ H' = [row v e 1 n (rows intR (ints l))]) := by
  have hl0 : l0.length = n := by rw [hp0.length_eq, List.length_range]
  rcases Nat.eq_zero_or_pos n with rfl | hpos
  · obtain rfl : l0 = [] := List.eq_nil_of_length_eq_zero hl0
    exact (sortFunc_nil L (.func (.func g) #[] caps.toArray) v e D).mono fun u H' ⟨h1, h2⟩ => ⟨h1, [], hp0, fun j k _ hk => by simp at hk, h2⟩
  · haveI : Inhabited { i : Nat // i < n } := ⟨⟨0, hpos⟩⟩
    have hb : ∀ i ∈ l0, i < n := fun i hi => List.mem_range.1 (hp0.mem_iff.1 hi)
    let d : List { i : Nat // i < n } := l0.attach.map fun x => ⟨x.1, hb x.1 x.2⟩
    have hdl : d.length = n := by simp [d, hl0]
    have hde : d.map (fun x => x.1) = l0 := by simp [d, List.map_map, Function.comp_def]
    have hcs : d.map (fun x => iv (x.1 : Nat)) = rows intR (ints l0) := by
      rw [rows_intR, ← hde]; simp [List.map_map, Function.comp_def]
    have hO : SWO (ltOf fun (x y : { i : Nat // i < n }) => cf x.1 y.1) := by
      have q : ∀ x y : { i : Nat // i < n }, ltOf (fun (x y : { i : Nat // i < n }) => cf x.1 y.1) x y = llt (key x.1) (key y.1) := fun x y => by
        unfold ltOf
        rw [Bool.eq_iff_iff, decide_eq_true_eq]
        exact hK.lt _ _ x.2 y.2
      refine ⟨fun x => by rw [q, llt_irrefl], fun x y z h1 h2 => by rw [q] at *; exact llt_trans h1 h2, fun x y z h1 h2 => ?_⟩
      rw [q] at *
      cases h3 : llt (key x.1) (key z.1) with
      | false => rfl
      | true =>
        rcases llt_tri (key x.1) (key y.1) with t | t | t
        · rw [h1] at t; cases t
        · rw [t, h2] at h3; cases h3
        · have := llt_trans t h3; rw [h2] at this; cases this
    have main := sortFunc_spec L (fun x : { i : Nat // i < n } => iv (x.1 : Nat)) (fun _ => rfl) (fun x y => cf x.1 y.1) hO g caps.toArray (fun args w => hcb.run) [D] (fun x y => by have := hcl x.1 y.1 x.2 y.2; simpa using this) v e d (by omega)
    rw [hdl, hcs] at main
    refine main.mono ?_
    rintro u H' ⟨hu, d', hp, hs, hH⟩
    refine ⟨hu, d'.map (fun x => x.1), ?_, ?_, ?_⟩
    · have := hp.map (fun x => x.1); rw [hde] at this; exact this.trans hp0
    · intro j k hjk hk
      rw [List.length_map] at hk
      have h1 := List.pairwise_iff_getElem.1 hs j k (by omega) hk hjk
      rw [List.getD_eq_getElem?_getD, List.getD_eq_getElem?_getD, List.getElem?_map, List.getElem?_map, List.getElem?_eq_getElem hk, List.getElem?_eq_getElem (show j < d'.length by omega)]
      simpa [ltOf] using h1
    · rw [hH, rows_intR]; simp [List.map_map, Function.comp_def]
end
theorem rowI {l : List Int} {k : Nat} (h : k < l.length) : (rows intR l)[k * 1 + 0]? = some (iv (l.getD k 0)) := by
  rw [rows_intR, Nat.mul_one, Nat.add_zero, List.getElem?_map, some_getD 0 h]; rfl
theorem rowI_set (l : List Int) (k : Nat) (x : Int) : (rows intR l).set (k * 1 + 0) (iv x) = rows intR (l.set k x) := by
  rw [Nat.mul_one, Nat.add_zero, rows_set1 (Rr := intR) rfl rfl]
theorem wf_ints {n : Nat} {l : List Nat} (hp : l.Perm (List.range n)) (hn : n ≤ 9223372036854775807) : ∀ x ∈ ints l, intR.wf x := by
  intro x hx
  obtain ⟨i, hi, rfl⟩ := List.mem_map.1 hx
  have := List.mem_range.1 (hp.mem_iff.1 hi)
  show i64ok (i : Int)
  unfold i64ok; omega
theorem ints_length (l : List Nat) : (ints l).length = l.length := List.length_map _
theorem rowI2 {l : List Nat} {k : Nat} (h : k < l.length) : (rows intR (ints l))[k * 1 + 0]? = some (iv ((l.getD k 0 : Nat) : Int)) := by
  rw [rowI (by rw [ints_length]; exact h), ints_getD]
end Go.J

/-
  (YtgikcbfdonjggaaGreatDoorFacts)
  Closed facts on the tables of the program: sizes, zero values, where fields lie, which functions have bodies.
  Conditions: none.
-/
set_option maxRecDepth 20000
set_option linter.unusedSimpArgs false
set_option linter.unusedVariables false
namespace Go.Proofs.YtgikcbfdonjggaaGreatDoor
open Go Go.J
theorem cb73 : Callable Tryz.prog 73 := ⟨_, Tryz.func73, rfl, by kernel_rfl⟩
theorem cb94 : Callable Tryz.prog 94 := ⟨_, Tryz.func94, rfl, by kernel_rfl⟩
theorem cb70 : Callable Tryz.prog 70 := ⟨_, Tryz.func70, rfl, by kernel_rfl⟩
theorem cb71 : Callable Tryz.prog 71 := ⟨_, Tryz.func71, rfl, by kernel_rfl⟩
theorem cb74 : Callable Tryz.prog 74 := ⟨_, Tryz.func74, rfl, by kernel_rfl⟩
theorem zc3 : (Tryz.prog.info? 3).bind (fun i => i.zero.map Value.cells) = some #[.int .i64 0] := by kernel_rfl
theorem zc25 : (Tryz.prog.info? 25).bind (fun i => i.zero.map Value.cells) = some #[.slice none 0 0] := by kernel_rfl
theorem cb69 : Callable Tryz.prog 69 := ⟨_, Tryz.func69, rfl, by kernel_rfl⟩
theorem cb72 : Callable Tryz.prog 72 := ⟨_, Tryz.func72, rfl, by kernel_rfl⟩
theorem zc104 : (Tryz.prog.info? 104).bind (fun i => i.zero.map Value.cells) = some #[.nilFunc] := by kernel_rfl
theorem sz104 : (Tryz.prog.info? 104).map (·.size) = some 1 := by kernel_rfl
theorem cb46 : Callable Tryz.prog 46 := ⟨_, Tryz.func46, rfl, by kernel_rfl⟩
theorem cb47 : Callable Tryz.prog 47 := ⟨_, Tryz.func47, rfl, by kernel_rfl⟩
theorem cb95 : Callable Tryz.prog 95 := ⟨_, Tryz.func95, rfl, by kernel_rfl⟩
theorem cb77 : Callable Tryz.prog 77 := ⟨_, Tryz.func77, rfl, by kernel_rfl⟩
theorem cb80 : Callable Tryz.prog 80 := ⟨_, Tryz.func80, rfl, by kernel_rfl⟩
theorem cb79 : Callable Tryz.prog 79 := ⟨_, Tryz.func79, rfl, by kernel_rfl⟩
theorem cb81 : Callable Tryz.prog 81 := ⟨_, Tryz.func81, rfl, by kernel_rfl⟩
theorem cb76 : Callable Tryz.prog 76 := ⟨_, Tryz.func76, rfl, by kernel_rfl⟩
theorem zc107 : (Tryz.prog.info? 107).bind (fun i => i.zero.map Value.cells) = some #[.nilFunc] := by kernel_rfl
theorem sz107 : (Tryz.prog.info? 107).map (·.size) = some 1 := by kernel_rfl
theorem cb78 : Callable Tryz.prog 78 := ⟨_, Tryz.func78, rfl, by kernel_rfl⟩
theorem cb82 : Callable Tryz.prog 82 := ⟨_, Tryz.func82, rfl, by kernel_rfl⟩
theorem cb83 : Callable Tryz.prog 83 := ⟨_, Tryz.func83, rfl, by kernel_rfl⟩
end Go.Proofs.YtgikcbfdonjggaaGreatDoor

/-
  (YtgikcbfdonjggaaGreatDoorW1)
  The walks of the checks, of the comparisons and of the inner functions of the sort of suffixes.
  Conditions: the numbers stand below the length of the list.
-/
set_option maxRecDepth 20000
set_option linter.unusedSimpArgs false
set_option linter.unusedVariables false
namespace Go.Proofs.YtgikcbfdonjggaaGreatDoor
open Go Go.J

def sfFrom : Int → List Int → Int × Int
  | _, [] => (0, 0)
  | k, x :: l => if x < 0 ∨ 1114111 < x then (3, k) else sfFrom (k + 1) l
def sFault (p : List Int) : Int × Int := if 2000 < p.length then (2, -1) else sfFrom 0 p
theorem sf_step {l : List Int} {k : Nat} {x : Int} (h : l[k]? = some x) : sfFrom k (l.drop k) = if x < 0 ∨ 1114111 < x then (3, (k : Int)) else sfFrom ((k + 1 : Nat) : Int) (l.drop (k + 1)) := by
  rw [drop_of_some h, sfFrom, Int.natCast_add]; rfl
theorem sf_end {l : List Int} {k : Nat} (h : l.length ≤ k) (k' : Int) : sfFrom k' (l.drop k) = (0, 0) := by rw [List.drop_of_length_le h]; rfl
theorem sFault_big {p : List Int} (h : 2000 < p.length) : sFault p = (2, -1) := by unfold sFault; rw [if_pos h]
theorem sFault_from {p : List Int} (h : ¬ 2000 < p.length) : sFault p = sfFrom ((0 : Nat) : Int) (p.drop 0) := by unfold sFault; rw [if_neg h]; rfl
theorem sf_code {k : Int} {l : List Int} : (sfFrom k l).1 = 0 → sfFrom k l = (0, 0) := by
  induction l generalizing k with
  | nil => intro _; rfl
  | cons x l ih =>
    intro h
    unfold sfFrom at h ⊢
    split
    · rename_i h1; rw [if_pos h1] at h; cases h
    · rename_i h1; rw [if_neg h1] at h; exact ih h
theorem sFault_ok {p : List Int} (h : (sFault p).1 = 0) : p.length ≤ 2000 ∧ sFault p = (0, 0) := by
  unfold sFault at h ⊢
  by_cases h1 : 2000 < p.length
  · rw [if_pos h1] at h; cases h
  · rw [if_neg h1] at h ⊢; exact ⟨by omega, sf_code h⟩
def orL : List Int → Int
  | [] => 0
  | x :: l => if x ≠ 0 then x else orL l
theorem or_step {l : List Int} {k : Nat} {x : Int} (h : l[k]? = some x) : orL (l.drop k) = if x ≠ 0 then x else orL (l.drop (k + 1)) := by rw [drop_of_some h, orL]

theorem check_spec (v0 : Value) (p : List Int) : FnV Tryz.prog 46 #[v0] [sl intR v0 p] (fv (sFault p)) := by
  refine FnV.body1 (args := [v0]) 26 Tryz.func46 rfl Tryz.ntmps46 rfl (fun c => ?_)
  refine St.seq ?_
  refine St.wf v0 (fun hwf hlen => ?_)
  refine St.rg ?_
  refine St.alloc zc30 rfl (fun b2 => ?_)
  refine St.nil ?_
  refine St.then_normal ?_
  refine St.seq ?_
  refine St.seq ?_
  refine St.rg ?_
  refine St.ev _ (Ev.move (Opd.mk rfl)) rfl ?_
  refine St.ev _ (Ev.lensl (Opd.mk rfl) Tryz.underlying25) rfl ?_
  refine St.ev _ (Ev.gtr (Opd.mk rfl) (Opd.mk rfl)) rfl ?_
  refine St.nil ?_
  refine St.then_normal ?_
  refine St.cond _ rfl (fun h7 => ?_) (fun h7 => ?_)
  · skip
    try simp only [Bool.and_true, Bool.true_and, decide_eq_true_eq, decide_eq_false_iff_not, Bool.and_eq_true, Bool.or_eq_true, Bool.and_eq_false_iff, Bool.or_eq_false_iff, Bool.not_eq_true', Bool.not_eq_false', beq_iff_eq, beq_eq_false_iff_ne, Int.not_lt, Int.not_le] at h7
    refine St.seq ?_
    refine St.rg ?_
    refine St.ev _ (Ev.build (ps := [(0, (Operand.const (Value.int IntKind.i64 2))), (1, (Operand.const (Value.int IntKind.i64 (-1))))]) (Opds.cons (Opd.mk rfl) (Opds.cons (Opd.mk rfl) Opds.nil)) (fun w => bld30_0_1 rfl rfl w)) rfl ?_
    refine St.storeA (Opd.mk rfl) (Opd.mk rfl) sz30 (by first | simp only [List.length_cons, List.length_nil] | rfl) rfl ?_
    refine St.nil ?_
    refine St.then_normal ?_
    refine St.rett ?_
    refine St.then_ret ?_
    refine St.rets [_] [] Tryz.results46 ⟨⟨_, _, _, _, rfl, InB.mem, .inl ⟨⟨_, Tryz.underlying30⟩, sz30, rfl⟩⟩, trivial⟩ ?_ (fun _ hw => hw.sub)
    exact fe (sFault_big (by omega))
  · skip
    try simp only [Bool.and_true, Bool.true_and, decide_eq_true_eq, decide_eq_false_iff_not, Bool.and_eq_true, Bool.or_eq_true, Bool.and_eq_false_iff, Bool.or_eq_false_iff, Bool.not_eq_true', Bool.not_eq_false', beq_iff_eq, beq_eq_false_iff_ne, Int.not_lt, Int.not_le] at h7
    refine St.skip ?_
    refine St.then_normal ?_
    refine St.seq ?_
    refine St.seq ?_
    refine St.rg ?_
    refine St.ev _ (Ev.move (Opd.mk rfl)) rfl ?_
    refine St.ev _ (Ev.lensl (Opd.mk rfl) Tryz.underlying25) rfl ?_
    refine St.ev _ (Ev.move (Opd.mk rfl)) rfl ?_
    refine St.nil ?_
    refine St.then_normal ?_
    refine St.block ?_
    refine St.loopS (ι := Nat) (fun k T => (11, iv k) :: T) (fun k => k ≤ p.length ∧ sFault p = sfFrom k (p.drop k)) (fun k => p.length - k) 0 (Keep.cons 2 rfl (Keep.cons 9 rfl (Keep.cons 10 rfl Keep.nil))) ⟨Nat.zero_le _, sFault_from (by omega)⟩ (by repeat (first | exact Sub.nil | refine Sub.cons (by first | rfl | exact congrArg (fun z => some (iv z)) (by first | omega | (dsimp only; omega)) | exact congrArg (fun z => some (Value.bool z)) (by first | assumption | exact Eq.symm (by assumption))) ?_)) ?_
    intro k hphi
    obtain ⟨hk, hv⟩ := hphi
    refine St.seq ?_
    refine St.rg ?_
    refine St.ev _ (Ev.lss (Opd.mk rfl) (Opd.mk rfl)) rfl ?_
    refine St.nil ?_
    refine St.then_normal ?_
    refine St.seq ?_
    refine St.cond _ rfl (fun h12 => ?_) (fun h12 => ?_)
    · skip
      try simp only [Bool.and_true, Bool.true_and, decide_eq_true_eq, decide_eq_false_iff_not, Bool.and_eq_true, Bool.or_eq_true, Bool.and_eq_false_iff, Bool.or_eq_false_iff, Bool.not_eq_true', Bool.not_eq_false', beq_iff_eq, beq_eq_false_iff_ne, Int.not_lt, Int.not_le] at h12
      obtain ⟨x, hx⟩ := some_of_lt (show k < p.length by omega)
      refine St.skip ?_
      refine St.then_normal ?_
      refine St.seq ?_
      refine St.block ?_
      refine St.seq ?_
      refine St.rg ?_
      refine St.ev _ (Ev.move (Opd.mk rfl)) rfl ?_
      refine St.ev _ (Ev.idxaddr  (Opd.mk rfl) (Opd.mk rfl) Tryz.underlying25 sz3 rfl (by omega)) rfl ?_
      refine St.ev _ (Ev.ld1 (Opd.mk rfl) (by first | assumption | exact some_getD 0 (by omega)) Tryz.underlying3 trivial rfl) rfl ?_
      refine St.ev _ (Ev.assign (Opd.mk rfl)) rfl ?_
      refine St.ev _ (Ev.assign (Opd.mk rfl)) rfl ?_
      refine St.nil ?_
      refine St.then_normal ?_
      refine St.seq ?_
      refine St.rg ?_
      refine St.ev _ (Ev.move (Opd.mk rfl)) rfl ?_
      refine St.ev _ (Ev.lss (Opd.mk rfl) (Opd.mk rfl)) rfl ?_
      refine St.ev _ (Ev.move (Opd.mk rfl)) rfl ?_
      refine St.gf _ rfl rfl (fun hg => Ev.move (Opd.mk rfl)) rfl ?_
      refine St.gf _ rfl rfl (fun hg => Ev.gtr (Opd.gv rfl hg) (Opd.mk rfl)) rfl ?_
      refine St.ev _ (Ev.or (Opd.mk rfl) (fun hp => Opd.gv rfl hp)) rfl ?_
      refine St.nil ?_
      refine St.then_normal ?_
      refine St.cond _ rfl (fun h21 => ?_) (fun h21 => ?_)
      · skip
        try simp only [Bool.and_true, Bool.true_and, decide_eq_true_eq, decide_eq_false_iff_not, Bool.and_eq_true, Bool.or_eq_true, Bool.and_eq_false_iff, Bool.or_eq_false_iff, Bool.not_eq_true', Bool.not_eq_false', beq_iff_eq, beq_eq_false_iff_ne, Int.not_lt, Int.not_le] at h21
        refine St.seq ?_
        refine St.rg ?_
        refine St.ev _ (Ev.move (Opd.mk rfl)) rfl ?_
        refine St.ev _ (Ev.build (ps := [(0, (Operand.const (Value.int IntKind.i64 3))), (1, (Operand.tmp 22))]) (Opds.cons (Opd.mk rfl) (Opds.cons (Opd.mk rfl) Opds.nil)) (fun w => bld30_0_1 rfl rfl w)) rfl ?_
        refine St.storeA (Opd.mk rfl) (Opd.mk rfl) sz30 (by first | simp only [List.length_cons, List.length_nil] | rfl) rfl ?_
        refine St.nil ?_
        refine St.then_normal ?_
        refine St.rett ?_
        refine St.in_ret ?_
        refine St.then_ret ?_
        refine St.then_ret ?_
        refine St.in_ret ?_
        refine St.then_ret ?_
        refine St.rets [_] [] Tryz.results46 ⟨⟨_, _, _, _, rfl, InB.mem, .inl ⟨⟨_, Tryz.underlying30⟩, sz30, rfl⟩⟩, trivial⟩ ?_ (fun _ hw => hw.sub)
        exact fe (by rw [hv, sf_step hx, if_pos (by omega)])
      · skip
        try simp only [Bool.and_true, Bool.true_and, decide_eq_true_eq, decide_eq_false_iff_not, Bool.and_eq_true, Bool.or_eq_true, Bool.and_eq_false_iff, Bool.or_eq_false_iff, Bool.not_eq_true', Bool.not_eq_false', beq_iff_eq, beq_eq_false_iff_ne, Int.not_lt, Int.not_le] at h21
        refine St.skip ?_
        refine St.in_normal ?_
        refine St.then_normal ?_
        refine St.rg ?_
        refine St.ev _ (Ev.add (Opd.mk rfl) (Opd.mk rfl) (by omega)) rfl ?_
        refine St.ev _ (Ev.move (Opd.mk rfl)) rfl ?_
        refine St.nil ?_
        refine St.then_normal ?_
        refine St.againS (k + 1) ⟨by omega, by rw [hv, sf_step hx, if_neg (by omega)]⟩ (by first | omega | (dsimp only; omega)) (by repeat (first | exact Sub.nil | refine Sub.cons (by first | rfl | exact congrArg (fun z => some (iv z)) (by first | omega | (dsimp only; omega)) | exact congrArg (fun z => some (Value.bool z)) (by first | assumption | exact Eq.symm (by assumption))) ?_)) (fun _ hw => hw.sub)
    · skip
      try simp only [Bool.and_true, Bool.true_and, decide_eq_true_eq, decide_eq_false_iff_not, Bool.and_eq_true, Bool.or_eq_true, Bool.and_eq_false_iff, Bool.or_eq_false_iff, Bool.not_eq_true', Bool.not_eq_false', beq_iff_eq, beq_eq_false_iff_ne, Int.not_lt, Int.not_le] at h12
      refine St.exit ?_
      refine St.then_exit ?_
      refine St.then_exit ?_
      refine St.in_hit ?_
      refine St.then_normal ?_
      refine St.seq ?_
      refine St.rg ?_
      refine St.ev _ (Ev.build (ps := []) (Opds.nil) (fun w => bld30_  w)) rfl ?_
      refine St.storeA (Opd.mk rfl) (Opd.mk rfl) sz30 (by first | simp only [List.length_cons, List.length_nil] | rfl) rfl ?_
      refine St.nil ?_
      refine St.then_normal ?_
      refine St.rett ?_
      refine St.rets [_] [] Tryz.results46 ⟨⟨_, _, _, _, rfl, InB.mem, .inl ⟨⟨_, Tryz.underlying30⟩, sz30, rfl⟩⟩, trivial⟩ ?_ (fun _ hw => hw.sub)
      exact fe (by rw [hv, sf_end (by omega)])

theorem isNaN_spec (x : Int) : FnV Tryz.prog 55 #[iv x] [] (.bool false) := by
  refine FnV.body0 (args := [iv x]) 6 Tryz.func55 rfl Tryz.ntmps55 rfl (fun c => ?_)
  refine St.seq ?_
  refine St.rg ?_
  refine St.ev _ (Ev.assign (Opd.mk rfl)) rfl ?_
  refine St.nil ?_
  refine St.then_normal ?_
  refine St.seq ?_
  refine St.rg ?_
  refine St.ev _ (Ev.move (Opd.mk rfl)) rfl ?_
  refine St.ev _ (Ev.move (Opd.mk rfl)) rfl ?_
  refine St.ev _ (Ev.neq (Opd.mk rfl) (Opd.mk rfl)) rfl ?_
  refine St.ev _ (Ev.assign (Opd.mk rfl)) rfl ?_
  refine St.nil ?_
  refine St.then_normal ?_
  refine St.rett ?_
  refine St.rets [_] [] Tryz.results55 ⟨rfl, trivial⟩ ?_ (fun _ hw => hw.sub)
  exact be (by simp)

theorem Compare_spec (x y : Int) : FnV Tryz.prog 41 #[iv x, iv y] [] (iv (sgn x y)) := by
  refine FnV.body0 (args := [iv x, iv y]) 20 Tryz.func41 rfl Tryz.ntmps41 rfl (fun c => ?_)
  refine St.seq ?_
  refine St.rg ?_
  refine St.ev _ (Ev.assign (Opd.mk rfl)) rfl ?_
  refine St.nil ?_
  refine St.then_normal ?_
  refine St.seq ?_
  refine St.rg ?_
  refine St.ev _ (Ev.move (Opd.mk rfl)) rfl ?_
  refine St.ev _ (Ev.call (isNaN_spec x) cb55 (Opds.cons (Opd.mk rfl) Opds.nil)) rfl ?_
  refine St.ev _ (Ev.assign (Opd.mk rfl)) rfl ?_
  refine St.nil ?_
  refine St.then_normal ?_
  refine St.seq ?_
  refine St.rg ?_
  refine St.ev _ (Ev.move (Opd.mk rfl)) rfl ?_
  refine St.ev _ (Ev.call (isNaN_spec y) cb55 (Opds.cons (Opd.mk rfl) Opds.nil)) rfl ?_
  refine St.ev _ (Ev.assign (Opd.mk rfl)) rfl ?_
  refine St.nil ?_
  refine St.then_normal ?_
  refine St.seq ?_
  refine St.seq ?_
  refine St.rg ?_
  refine St.ev _ (Ev.move (Opd.mk rfl)) rfl ?_
  refine St.nil ?_
  refine St.then_normal ?_
  refine St.condf _ rfl rfl ?_
  refine St.skip ?_
  refine St.then_normal ?_
  refine St.seq ?_
  refine St.seq ?_
  refine St.rg ?_
  refine St.ev _ (Ev.move (Opd.mk rfl)) rfl ?_
  refine St.nil ?_
  refine St.then_normal ?_
  refine St.condf _ rfl rfl ?_
  refine St.skip ?_
  refine St.then_normal ?_
  refine St.seq ?_
  refine St.seq ?_
  refine St.rg ?_
  refine St.ev _ (Ev.move (Opd.mk rfl)) rfl ?_
  refine St.ev _ (Ev.move (Opd.mk rfl)) rfl ?_
  refine St.ev _ (Ev.lss (Opd.mk rfl) (Opd.mk rfl)) rfl ?_
  refine St.nil ?_
  refine St.then_normal ?_
  refine St.cond _ rfl (fun h16 => ?_) (fun h16 => ?_)
  · skip
    try simp only [Bool.and_true, Bool.true_and, decide_eq_true_eq, decide_eq_false_iff_not, Bool.and_eq_true, Bool.or_eq_true, Bool.and_eq_false_iff, Bool.or_eq_false_iff, Bool.not_eq_true', Bool.not_eq_false', beq_iff_eq, beq_eq_false_iff_ne, Int.not_lt, Int.not_le] at h16
    refine St.seq ?_
    refine St.rg ?_
    refine St.ev _ (Ev.assign (Opd.mk rfl)) rfl ?_
    refine St.nil ?_
    refine St.then_normal ?_
    refine St.rett ?_
    refine St.then_ret ?_
    refine St.rets [_] [] Tryz.results41 ⟨rfl, trivial⟩ ?_ (fun _ hw => hw.sub)
    exact ie (by unfold sgn; rw [if_pos h16])
  · skip
    try simp only [Bool.and_true, Bool.true_and, decide_eq_true_eq, decide_eq_false_iff_not, Bool.and_eq_true, Bool.or_eq_true, Bool.and_eq_false_iff, Bool.or_eq_false_iff, Bool.not_eq_true', Bool.not_eq_false', beq_iff_eq, beq_eq_false_iff_ne, Int.not_lt, Int.not_le] at h16
    refine St.skip ?_
    refine St.then_normal ?_
    refine St.seq ?_
    refine St.seq ?_
    refine St.rg ?_
    refine St.ev _ (Ev.move (Opd.mk rfl)) rfl ?_
    refine St.ev _ (Ev.move (Opd.mk rfl)) rfl ?_
    refine St.ev _ (Ev.gtr (Opd.mk rfl) (Opd.mk rfl)) rfl ?_
    refine St.nil ?_
    refine St.then_normal ?_
    refine St.cond _ rfl (fun h19 => ?_) (fun h19 => ?_)
    · skip
      try simp only [Bool.and_true, Bool.true_and, decide_eq_true_eq, decide_eq_false_iff_not, Bool.and_eq_true, Bool.or_eq_true, Bool.and_eq_false_iff, Bool.or_eq_false_iff, Bool.not_eq_true', Bool.not_eq_false', beq_iff_eq, beq_eq_false_iff_ne, Int.not_lt, Int.not_le] at h19
      refine St.seq ?_
      refine St.rg ?_
      refine St.ev _ (Ev.assign (Opd.mk rfl)) rfl ?_
      refine St.nil ?_
      refine St.then_normal ?_
      refine St.rett ?_
      refine St.then_ret ?_
      refine St.rets [_] [] Tryz.results41 ⟨rfl, trivial⟩ ?_ (fun _ hw => hw.sub)
      exact ie (by unfold sgn; rw [if_neg (by omega), if_pos h19])
    · skip
      try simp only [Bool.and_true, Bool.true_and, decide_eq_true_eq, decide_eq_false_iff_not, Bool.and_eq_true, Bool.or_eq_true, Bool.and_eq_false_iff, Bool.or_eq_false_iff, Bool.not_eq_true', Bool.not_eq_false', beq_iff_eq, beq_eq_false_iff_ne, Int.not_lt, Int.not_le] at h19
      refine St.skip ?_
      refine St.then_normal ?_
      refine St.seq ?_
      refine St.rg ?_
      refine St.ev _ (Ev.assign (Opd.mk rfl)) rfl ?_
      refine St.nil ?_
      refine St.then_normal ?_
      refine St.rett ?_
      refine St.rets [_] [] Tryz.results41 ⟨rfl, trivial⟩ ?_ (fun _ hw => hw.sub)
      exact ie (by unfold sgn; rw [if_neg (by omega), if_neg (by omega)])

theorem Or_spec (v0 : Value) (p : List Int) : FnV Tryz.prog 40 #[v0] [sl intR v0 p] (iv (orL p)) := by
  refine FnV.body1 (args := [v0]) 18 Tryz.func40 rfl Tryz.ntmps40 rfl (fun c => ?_)
  refine St.seq ?_
  refine St.wf v0 (fun hwf hlen => ?_)
  refine St.rg ?_
  refine St.ev _ (Ev.assign (Opd.mk rfl)) rfl ?_
  refine St.nil ?_
  refine St.then_normal ?_
  refine St.seq ?_
  refine St.rg ?_
  refine St.ev _ (Ev.assign (Opd.mk rfl)) rfl ?_
  refine St.nil ?_
  refine St.then_normal ?_
  refine St.seq ?_
  refine St.seq ?_
  refine St.rg ?_
  refine St.ev _ (Ev.move (Opd.mk rfl)) rfl ?_
  refine St.ev _ (Ev.lensl (Opd.mk rfl) Tryz.underlying25) rfl ?_
  refine St.ev _ (Ev.move (Opd.mk rfl)) rfl ?_
  refine St.nil ?_
  refine St.then_normal ?_
  refine St.block ?_
  refine St.loopS (ι := Nat) (fun k T => (8, iv k) :: T) (fun k => k ≤ p.length ∧ orL p = orL (p.drop k)) (fun k => p.length - k) 0 (Keep.cons 3 rfl (Keep.cons 6 rfl (Keep.cons 7 rfl Keep.nil))) ⟨Nat.zero_le _, rfl⟩ (by repeat (first | exact Sub.nil | refine Sub.cons (by first | rfl | exact congrArg (fun z => some (iv z)) (by first | omega | (dsimp only; omega)) | exact congrArg (fun z => some (Value.bool z)) (by first | assumption | exact Eq.symm (by assumption))) ?_)) ?_
  intro k hphi
  obtain ⟨hk, hv⟩ := hphi
  refine St.seq ?_
  refine St.rg ?_
  refine St.ev _ (Ev.lss (Opd.mk rfl) (Opd.mk rfl)) rfl ?_
  refine St.nil ?_
  refine St.then_normal ?_
  refine St.seq ?_
  refine St.cond _ rfl (fun h9 => ?_) (fun h9 => ?_)
  · skip
    try simp only [Bool.and_true, Bool.true_and, decide_eq_true_eq, decide_eq_false_iff_not, Bool.and_eq_true, Bool.or_eq_true, Bool.and_eq_false_iff, Bool.or_eq_false_iff, Bool.not_eq_true', Bool.not_eq_false', beq_iff_eq, beq_eq_false_iff_ne, Int.not_lt, Int.not_le] at h9
    obtain ⟨x, hx⟩ := some_of_lt (show k < p.length by omega)
    refine St.skip ?_
    refine St.then_normal ?_
    refine St.seq ?_
    refine St.block ?_
    refine St.seq ?_
    refine St.rg ?_
    refine St.ev _ (Ev.idxaddr  (Opd.mk rfl) (Opd.mk rfl) Tryz.underlying25 sz3 rfl (by omega)) rfl ?_
    refine St.ev _ (Ev.ld1 (Opd.mk rfl) (by first | assumption | exact some_getD 0 (by omega)) Tryz.underlying3 trivial rfl) rfl ?_
    refine St.ev _ (Ev.assign (Opd.mk rfl)) rfl ?_
    refine St.nil ?_
    refine St.then_normal ?_
    refine St.seq ?_
    refine St.rg ?_
    refine St.ev _ (Ev.move (Opd.mk rfl)) rfl ?_
    refine St.ev _ (Ev.move (Opd.mk rfl)) rfl ?_
    refine St.ev _ (Ev.neq (Opd.mk rfl) (Opd.mk rfl)) rfl ?_
    refine St.nil ?_
    refine St.then_normal ?_
    refine St.cond _ rfl (fun h14 => ?_) (fun h14 => ?_)
    · skip
      try simp only [Bool.and_true, Bool.true_and, decide_eq_true_eq, decide_eq_false_iff_not, Bool.and_eq_true, Bool.or_eq_true, Bool.and_eq_false_iff, Bool.or_eq_false_iff, Bool.not_eq_true', Bool.not_eq_false', beq_iff_eq, beq_eq_false_iff_ne, Int.not_lt, Int.not_le] at h14
      refine St.seq ?_
      refine St.rg ?_
      refine St.ev _ (Ev.move (Opd.mk rfl)) rfl ?_
      refine St.ev _ (Ev.assign (Opd.mk rfl)) rfl ?_
      refine St.nil ?_
      refine St.then_normal ?_
      refine St.rett ?_
      refine St.in_ret ?_
      refine St.then_ret ?_
      refine St.then_ret ?_
      refine St.in_ret ?_
      refine St.then_ret ?_
      refine St.rets [_] [] Tryz.results40 ⟨rfl, trivial⟩ ?_ (fun _ hw => hw.sub)
      exact ie (by rw [hv, or_step hx, if_pos h14])
    · skip
      try simp only [Bool.and_true, Bool.true_and, decide_eq_true_eq, decide_eq_false_iff_not, Bool.and_eq_true, Bool.or_eq_true, Bool.and_eq_false_iff, Bool.or_eq_false_iff, Bool.not_eq_true', Bool.not_eq_false', beq_iff_eq, beq_eq_false_iff_ne, Int.not_lt, Int.not_le] at h14
      refine St.skip ?_
      refine St.in_normal ?_
      refine St.then_normal ?_
      refine St.rg ?_
      refine St.ev _ (Ev.add (Opd.mk rfl) (Opd.mk rfl) (by omega)) rfl ?_
      refine St.ev _ (Ev.move (Opd.mk rfl)) rfl ?_
      refine St.nil ?_
      refine St.then_normal ?_
      refine St.againS (k + 1) ⟨by omega, by rw [hv, or_step hx, if_neg (by omega)]⟩ (by first | omega | (dsimp only; omega)) (by repeat (first | exact Sub.nil | refine Sub.cons (by first | rfl | exact congrArg (fun z => some (iv z)) (by first | omega | (dsimp only; omega)) | exact congrArg (fun z => some (Value.bool z)) (by first | assumption | exact Eq.symm (by assumption))) ?_)) (fun _ hw => hw.sub)
  · skip
    try simp only [Bool.and_true, Bool.true_and, decide_eq_true_eq, decide_eq_false_iff_not, Bool.and_eq_true, Bool.or_eq_true, Bool.and_eq_false_iff, Bool.or_eq_false_iff, Bool.not_eq_true', Bool.not_eq_false', beq_iff_eq, beq_eq_false_iff_ne, Int.not_lt, Int.not_le] at h9
    refine St.exit ?_
    refine St.then_exit ?_
    refine St.then_exit ?_
    refine St.in_hit ?_
    refine St.then_normal ?_
    refine St.seq ?_
    refine St.rg ?_
    refine St.ev _ (Ev.move (Opd.mk rfl)) rfl ?_
    refine St.ev _ (Ev.assign (Opd.mk rfl)) rfl ?_
    refine St.nil ?_
    refine St.then_normal ?_
    refine St.rett ?_
    refine St.rets [_] [] Tryz.results40 ⟨rfl, trivial⟩ ?_ (fun _ hw => hw.sub)
    exact ie (by rw [hv, List.drop_of_length_le (by omega)]; rfl)

theorem IndexFunc_spec (v0 : Value) (xs : List Int) (fcl : FuncId) (hcb : Callable Tryz.prog fcl) (caps : List Value) (D : Dat) (pr : Int → Bool) (hcl : ∀ x ∈ xs, FnV Tryz.prog fcl ([iv x] ++ caps).toArray [D] (.bool (pr x))) :
    FnV Tryz.prog 53 #[v0, .func (.func fcl) #[] caps.toArray] [sl intR v0 xs, D] (iv (ix pr xs)) := by
  refine FnV.body2 (args := [v0, .func (.func fcl) #[] caps.toArray]) 19 Tryz.func53 rfl Tryz.ntmps53 rfl (fun c => ?_)
  refine St.seq ?_
  refine St.wf v0 (fun hwf hlen => ?_)
  refine St.rg ?_
  refine St.ev _ (Ev.assign (Opd.mk rfl)) rfl ?_
  refine St.nil ?_
  refine St.then_normal ?_
  refine St.seq ?_
  refine St.seq ?_
  refine St.rg ?_
  refine St.ev _ (Ev.move (Opd.mk rfl)) rfl ?_
  refine St.ev _ (Ev.lensl (Opd.mk rfl) Tryz.underlying25) rfl ?_
  refine St.ev _ (Ev.move (Opd.mk rfl)) rfl ?_
  refine St.nil ?_
  refine St.then_normal ?_
  refine St.block ?_
  refine St.loopS (ι := Nat) (fun k T => (8, iv k) :: T) (fun k => k ≤ xs.length ∧ (xs.take k).all (fun y => !pr y) = true) (fun k => xs.length - k) 0 (Keep.cons 0 rfl (Keep.cons 1 rfl (Keep.cons 7 rfl Keep.nil))) ⟨Nat.zero_le _, rfl⟩ (by repeat (first | exact Sub.nil | refine Sub.cons (by first | rfl | exact congrArg (fun z => some (iv z)) (by first | omega | (dsimp only; omega)) | exact congrArg (fun z => some (Value.bool z)) (by first | assumption | exact Eq.symm (by assumption))) ?_)) ?_
  intro k hphi
  obtain ⟨hk, hall⟩ := hphi
  refine St.seq ?_
  refine St.rg ?_
  refine St.ev _ (Ev.lss (Opd.mk rfl) (Opd.mk rfl)) rfl ?_
  refine St.nil ?_
  refine St.then_normal ?_
  refine St.seq ?_
  refine St.cond _ rfl (fun h9 => ?_) (fun h9 => ?_)
  · skip
    try simp only [Bool.and_true, Bool.true_and, decide_eq_true_eq, decide_eq_false_iff_not, Bool.and_eq_true, Bool.or_eq_true, Bool.and_eq_false_iff, Bool.or_eq_false_iff, Bool.not_eq_true', Bool.not_eq_false', beq_iff_eq, beq_eq_false_iff_ne, Int.not_lt, Int.not_le] at h9
    obtain ⟨x, hx⟩ := some_of_lt (show k < xs.length by omega)
    refine St.skip ?_
    refine St.then_normal ?_
    refine St.seq ?_
    refine St.block ?_
    refine St.seq ?_
    refine St.rg ?_
    refine St.ev _ (Ev.move (Opd.mk rfl)) rfl ?_
    refine St.ev _ (Ev.assign (Opd.mk rfl)) rfl ?_
    refine St.nil ?_
    refine St.then_normal ?_
    refine St.seq ?_
    refine St.rg ?_
    refine St.ev _ (Ev.move (Opd.mk rfl)) rfl ?_
    refine St.ev _ (Ev.move (Opd.mk rfl)) rfl ?_
    refine St.ev _ (Ev.move (Opd.mk rfl)) rfl ?_
    refine St.ev _ (Ev.idxaddr  (Opd.mk rfl) (Opd.mk rfl) Tryz.underlying25 sz3 rfl (by omega)) rfl ?_
    refine St.ev _ (Ev.ld1 (Opd.mk rfl) (by first | assumption | exact some_getD 0 (by omega)) Tryz.underlying3 trivial rfl) rfl ?_
    refine St.ev _ (Ev.callc (hcl x (List.mem_of_getElem? hx)) hcb (Opd.mk rfl) (Opds.cons (Opd.mk rfl) Opds.nil)) rfl ?_
    refine St.nil ?_
    refine St.then_normal ?_
    refine St.cond _ rfl (fun h16 => ?_) (fun h16 => ?_)
    · skip
      skip
      refine St.seq ?_
      refine St.rg ?_
      refine St.ev _ (Ev.move (Opd.mk rfl)) rfl ?_
      refine St.ev _ (Ev.assign (Opd.mk rfl)) rfl ?_
      refine St.nil ?_
      refine St.then_normal ?_
      refine St.rett ?_
      refine St.in_ret ?_
      refine St.then_ret ?_
      refine St.then_ret ?_
      refine St.in_ret ?_
      refine St.then_ret ?_
      refine St.rets [_] [] Tryz.results53 ⟨rfl, trivial⟩ ?_ (fun _ hw => hw.sub)
      exact ie (ix_found hall hx h16).symm
    · skip
      skip
      refine St.skip ?_
      refine St.in_normal ?_
      refine St.then_normal ?_
      refine St.rg ?_
      refine St.ev _ (Ev.add (Opd.mk rfl) (Opd.mk rfl) (by omega)) rfl ?_
      refine St.ev _ (Ev.move (Opd.mk rfl)) rfl ?_
      refine St.nil ?_
      refine St.then_normal ?_
      refine St.againS (k + 1) ⟨by omega, all_take_some hall hx (by simpa using h16)⟩ (by first | omega | (dsimp only; omega)) (by repeat (first | exact Sub.nil | refine Sub.cons (by first | rfl | exact congrArg (fun z => some (iv z)) (by first | omega | (dsimp only; omega)) | exact congrArg (fun z => some (Value.bool z)) (by first | assumption | exact Eq.symm (by assumption))) ?_)) (fun _ hw => hw.sub)
  · skip
    try simp only [Bool.and_true, Bool.true_and, decide_eq_true_eq, decide_eq_false_iff_not, Bool.and_eq_true, Bool.or_eq_true, Bool.and_eq_false_iff, Bool.or_eq_false_iff, Bool.not_eq_true', Bool.not_eq_false', beq_iff_eq, beq_eq_false_iff_ne, Int.not_lt, Int.not_le] at h9
    refine St.exit ?_
    refine St.then_exit ?_
    refine St.then_exit ?_
    refine St.in_hit ?_
    refine St.then_normal ?_
    refine St.seq ?_
    refine St.rg ?_
    refine St.ev _ (Ev.assign (Opd.mk rfl)) rfl ?_
    refine St.nil ?_
    refine St.then_normal ?_
    refine St.rett ?_
    refine St.rets [_] [] Tryz.results53 ⟨rfl, trivial⟩ ?_ (fun _ hw => hw.sub)
    exact ie (ix_none hall (by omega)).symm

theorem ContainsFunc_spec (v0 : Value) (xs : List Int) (fcl : FuncId) (hcb : Callable Tryz.prog fcl) (caps : List Value) (D : Dat) (pr : Int → Bool) (hcl : ∀ x ∈ xs, FnV Tryz.prog fcl ([iv x] ++ caps).toArray [D] (.bool (pr x))) :
    FnV Tryz.prog 72 #[v0, .func (.func fcl) #[] caps.toArray] [sl intR v0 xs, D] (.bool (xs.any pr)) := by
  refine FnV.body2 (args := [v0, .func (.func fcl) #[] caps.toArray]) 9 Tryz.func72 rfl Tryz.ntmps72 rfl (fun c => ?_)
  refine St.seq ?_
  refine St.rg ?_
  refine St.ev _ (Ev.assign (Opd.mk rfl)) rfl ?_
  refine St.nil ?_
  refine St.then_normal ?_
  refine St.seq ?_
  refine St.rg ?_
  refine St.ev _ (Ev.move (Opd.mk rfl)) rfl ?_
  refine St.ev _ (Ev.move (Opd.mk rfl)) rfl ?_
  refine St.ev _ (Ev.call (IndexFunc_spec v0 xs fcl hcb caps D pr hcl) cb53 (Opds.cons (Opd.mk rfl) (Opds.cons (Opd.mk rfl) Opds.nil))) rfl ?_
  refine St.ev _ (Ev.geq (Opd.mk rfl) (Opd.mk rfl)) rfl ?_
  refine St.ev _ (Ev.assign (Opd.mk rfl)) rfl ?_
  refine St.nil ?_
  refine St.then_normal ?_
  refine St.rett ?_
  refine St.rets [_] [] Tryz.results72 ⟨rfl, trivial⟩ ?_ (fun _ hw => hw.sub)
  exact be (ix_nonneg _ _)

theorem build1_spec (p : List Int) (bp : Nat) (vp : Value) (a b : Nat) (ha : a < p.length) (hb : b < p.length) : FnV Tryz.prog 70 #[iv a, iv b, Value.pointer (some ⟨bp, 0, none⟩)] [cel bp vp, sl intR vp p] (iv (sgn (p.getD a 0) (p.getD b 0))) := by
  refine FnV.body2 (args := [iv a, iv b, Value.pointer (some ⟨bp, 0, none⟩)]) 15 Tryz.func70 rfl Tryz.ntmps70 rfl (fun c => ?_)
  refine St.seq ?_
  refine St.rg ?_
  refine St.ev _ (Ev.assign (Opd.mk rfl)) rfl ?_
  refine St.nil ?_
  refine St.then_normal ?_
  refine St.seq ?_
  refine St.rq mixed (by kernel_rfl) (Mm.drawn _ _) ?_
  refine Sq.ev _ (Ev.ldcel (Opd.mk rfl) Tryz.underlying25 trivial) rfl ?_
  refine Sq.ev _ (Ev.move (Opd.mk rfl)) rfl ?_
  refine Sq.ev _ (Ev.idxaddr (k := a) (Opd.mk rfl) (Opd.mk rfl) Tryz.underlying25 sz3 (by omega) (by omega)) rfl ?_
  refine Sq.ev _ (Ev.ld1 (Opd.mk rfl) (some_getD 0 ha) Tryz.underlying3 trivial rfl) rfl ?_
  refine Sq.ev _ (Ev.ldcel (Opd.mk rfl) Tryz.underlying25 trivial) rfl ?_
  refine Sq.ev _ (Ev.move (Opd.mk rfl)) rfl ?_
  refine Sq.ev _ (Ev.idxaddr (k := b) (Opd.mk rfl) (Opd.mk rfl) Tryz.underlying25 sz3 (by omega) (by omega)) rfl ?_
  refine Sq.ev _ (Ev.ld1 (Opd.mk rfl) (some_getD 0 hb) Tryz.underlying3 trivial rfl) rfl ?_
  refine Sq.ev _ (Ev.call (Compare_spec _ _) cb41 (Opds.cons (Opd.mk rfl) (Opds.cons (Opd.mk rfl) Opds.nil))) rfl ?_
  refine Sq.ev _ (Ev.assign (Opd.mk rfl)) rfl ?_
  refine Sq.nil ?_
  refine St.then_normal ?_
  refine St.rett ?_
  refine St.rets [_] [] Tryz.results70 ⟨rfl, trivial⟩ ?_ (fun _ hw => hw.sub)
  rfl

theorem build2_spec (l : List Nat) (rk : List Int) (bo br : Nat) (vo vr : Value) (i : Nat) (hi : i < rk.length) (h0 : 0 ≤ rk.getD i 0) (h1 : rk.getD i 0 < l.length) :
    FnV Tryz.prog 71 #[iv i, Value.pointer (some ⟨bo, 0, none⟩), Value.pointer (some ⟨br, 0, none⟩)] [cel bo vo, cel br vr, sl intR vo (ints l), sl intR vr rk] (.bool (!decide (l.getD (rk.getD i 0).toNat 0 = i))) := by
  refine FnV.body4 (args := [iv i, Value.pointer (some ⟨bo, 0, none⟩), Value.pointer (some ⟨br, 0, none⟩)]) 14 Tryz.func71 rfl Tryz.ntmps71 rfl (fun c => ?_)
  refine St.seq ?_
  have hl := ints_length l
  refine St.rg ?_
  refine St.ev _ (Ev.assign (Opd.mk rfl)) rfl ?_
  refine St.nil ?_
  refine St.then_normal ?_
  refine St.seq ?_
  refine St.rq mixed (by kernel_rfl) (Mm.drawn _ _) ?_
  refine Sq.ev _ (Ev.ldcel (Opd.mk rfl) Tryz.underlying25 trivial) rfl ?_
  refine Sq.ev _ (Ev.ldcel (Opd.mk rfl) Tryz.underlying25 trivial) rfl ?_
  refine Sq.ev _ (Ev.move (Opd.mk rfl)) rfl ?_
  refine Sq.ev _ (Ev.idxaddr (k := i) (Opd.mk rfl) (Opd.mk rfl) Tryz.underlying25 sz3 (by omega) (by omega)) rfl ?_
  refine Sq.ev _ (Ev.ld1 (Opd.mk rfl) (some_getD 0 hi) Tryz.underlying3 trivial rfl) rfl ?_
  refine Sq.ev _ (Ev.idxaddr (k := (rk.getD i 0).toNat) (Opd.mk rfl) (Opd.mk rfl) Tryz.underlying25 sz3 (by omega) (by omega)) rfl ?_
  refine Sq.ev _ (Ev.ld1 (Opd.mk rfl) (some_getD 0 (by omega)) Tryz.underlying3 trivial rfl) rfl ?_
  refine Sq.ev _ (Ev.move (Opd.mk rfl)) rfl ?_
  refine Sq.ev _ (Ev.neq (Opd.mk rfl) (Opd.mk rfl)) rfl ?_
  refine Sq.ev _ (Ev.assign (Opd.mk rfl)) rfl ?_
  refine Sq.nil ?_
  refine St.then_normal ?_
  refine St.rett ?_
  refine St.rets [_] [] Tryz.results71 ⟨rfl, trivial⟩ ?_ (fun _ hw => hw.sub)
  exact be (by rw [ints_getD]; congr 1; exact decide_eq_decide.2 (by omega))

theorem build3_spec (p : List Int) (L : Nat) (rk : List Int) (hrk : rk.length = p.length) (hL : p.length ≤ 2000 ∧ L ≤ 4000) (bs bn br : Nat) (vr : Value) (i : Nat) (hi : i < p.length) :
    FnV Tryz.prog 73 #[iv i, Value.pointer (some ⟨bs, 0, none⟩), Value.pointer (some ⟨bn, 0, none⟩), Value.pointer (some ⟨br, 0, none⟩)] [cel bs (iv L), cel bn (iv p.length), cel br vr, sl intR vr rk] (iv (second p L (fun i => rk.getD i 0) i)) := by
  refine FnV.body4 (args := [iv i, Value.pointer (some ⟨bs, 0, none⟩), Value.pointer (some ⟨bn, 0, none⟩), Value.pointer (some ⟨br, 0, none⟩)]) 17 Tryz.func73 rfl Tryz.ntmps73 rfl (fun c => ?_)
  refine St.seq ?_
  refine St.rg ?_
  refine St.ev _ (Ev.assign (Opd.mk rfl)) rfl ?_
  refine St.nil ?_
  refine St.then_normal ?_
  refine St.seq ?_
  refine St.seq ?_
  refine St.rg ?_
  refine St.ev _ (Ev.move (Opd.mk rfl)) rfl ?_
  refine St.ev _ (Ev.ldcel (Opd.mk rfl) Tryz.underlying3 trivial) rfl ?_
  refine St.ev _ (Ev.add (Opd.mk rfl) (Opd.mk rfl) (by omega)) rfl ?_
  refine St.ev _ (Ev.ldcel (Opd.mk rfl) Tryz.underlying3 trivial) rfl ?_
  refine St.ev _ (Ev.lss (Opd.mk rfl) (Opd.mk rfl)) rfl ?_
  refine St.nil ?_
  refine St.then_normal ?_
  refine St.cond _ rfl (fun h10 => ?_) (fun h10 => ?_)
  · skip
    try simp only [Bool.and_true, Bool.true_and, decide_eq_true_eq, decide_eq_false_iff_not, Bool.and_eq_true, Bool.or_eq_true, Bool.and_eq_false_iff, Bool.or_eq_false_iff, Bool.not_eq_true', Bool.not_eq_false', beq_iff_eq, beq_eq_false_iff_ne, Int.not_lt, Int.not_le] at h10
    refine St.seq ?_
    refine St.rg ?_
    refine St.ev _ (Ev.ldcel (Opd.mk rfl) Tryz.underlying25 trivial) rfl ?_
    refine St.ev _ (Ev.move (Opd.mk rfl)) rfl ?_
    refine St.ev _ (Ev.ldcel (Opd.mk rfl) Tryz.underlying3 trivial) rfl ?_
    refine St.ev _ (Ev.add (Opd.mk rfl) (Opd.mk rfl) (by omega)) rfl ?_
    refine St.ev _ (Ev.idxaddr (k := (i + L)) (Opd.mk rfl) (Opd.mk rfl) Tryz.underlying25 sz3 (by omega) (by omega)) rfl ?_
    refine St.ev _ (Ev.ld1 (Opd.mk rfl) (some_getD 0 (by omega)) Tryz.underlying3 trivial rfl) rfl ?_
    refine St.ev _ (Ev.assign (Opd.mk rfl)) rfl ?_
    refine St.nil ?_
    refine St.then_normal ?_
    refine St.rett ?_
    refine St.then_ret ?_
    refine St.rets [_] [] Tryz.results73 ⟨rfl, trivial⟩ ?_ (fun _ hw => hw.sub)
    exact ie (by unfold second; rw [if_pos (by omega)])
  · skip
    try simp only [Bool.and_true, Bool.true_and, decide_eq_true_eq, decide_eq_false_iff_not, Bool.and_eq_true, Bool.or_eq_true, Bool.and_eq_false_iff, Bool.or_eq_false_iff, Bool.not_eq_true', Bool.not_eq_false', beq_iff_eq, beq_eq_false_iff_ne, Int.not_lt, Int.not_le] at h10
    refine St.skip ?_
    refine St.then_normal ?_
    refine St.seq ?_
    refine St.rg ?_
    refine St.ev _ (Ev.assign (Opd.mk rfl)) rfl ?_
    refine St.nil ?_
    refine St.then_normal ?_
    refine St.rett ?_
    refine St.rets [_] [] Tryz.results73 ⟨rfl, trivial⟩ ?_ (fun _ hw => hw.sub)
    exact ie (by unfold second; rw [if_neg (by omega)])

theorem build3_specC (p : List Int) (L : Nat) (rk : List Int) (hrk : rk.length = p.length) (hL : p.length ≤ 2000 ∧ L ≤ 4000) (bs bn br : Nat) (vr : Value) (i : Nat) (hi : i < p.length) :
    FnV Tryz.prog 73 ([iv i] ++ [Value.pointer (some ⟨bs, 0, none⟩), Value.pointer (some ⟨bn, 0, none⟩), Value.pointer (some ⟨br, 0, none⟩)]).toArray [cel bs (iv L), cel bn (iv p.length), cel br vr, sl intR vr rk] (iv (second p L (fun i => rk.getD i 0) i)) := build3_spec p L rk hrk hL bs bn br vr i hi

theorem or_two (a b : Int) : orL [a, b] = if a ≠ 0 then a else b := by
  unfold orL orL orL
  split
  · rfl
  · split
    · rfl
    · omega
theorem sgn_wf (a b : Int) : i64ok (sgn a b) := by unfold sgn i64ok; split <;> (try split) <;> omega

set_option maxHeartbeats 4000000 in
theorem build4_spec (p : List Int) (L : Nat) (rk : List Int) (hrk : rk.length = p.length) (hL : p.length ≤ 2000 ∧ L ≤ 4000) (bs bn br b2 : Nat) (vr : Value) (a b : Nat) (ha : a < p.length) (hb : b < p.length) :
    FnV Tryz.prog 74 #[iv a, iv b, Value.pointer (some ⟨br, 0, none⟩), Value.pointer (some ⟨b2, 0, none⟩)] [cel br vr, cel b2 (.func (.func 73) #[] #[Value.pointer (some ⟨bs, 0, none⟩), Value.pointer (some ⟨bn, 0, none⟩), Value.pointer (some ⟨br, 0, none⟩)]), cel bs (iv L), cel bn (iv p.length), sl intR vr rk] (iv (cfR p L (fun i => rk.getD i 0) a b)) := by
  refine FnV.body5 (args := [iv a, iv b, Value.pointer (some ⟨br, 0, none⟩), Value.pointer (some ⟨b2, 0, none⟩)]) 25 Tryz.func74 rfl Tryz.ntmps74 rfl (fun c => ?_)
  refine St.seq ?_
  refine St.rg ?_
  refine St.ev _ (Ev.assign (Opd.mk rfl)) rfl ?_
  refine St.nil ?_
  refine St.then_normal ?_
  refine St.seq ?_
  refine St.par [] mixed ?_
  refine SW.defer 0 (by repeat (first | refine NP.then ?_ | refine NP.inBlock ?_ | exact NP.body)) (by kernel_rfl) rfl (fun R => Ev.ldcel (Opd.mk rfl) Tryz.underlying25 trivial) (by kernel_rfl) rfl ?_
  refine SW.defer 1 (by repeat (first | refine NP.then ?_ | refine NP.inBlock ?_ | exact NP.body)) (by kernel_rfl) rfl (fun R => Ev.move (Opd.mk rfl)) (by kernel_rfl) rfl ?_
  refine SW.defer 2 (by repeat (first | refine NP.then ?_ | refine NP.inBlock ?_ | exact NP.body)) (by kernel_rfl) rfl (fun R => Ev.idxaddr (k := a) (Opd.mk rfl) (Opd.mk rfl) Tryz.underlying25 sz3 (by omega) (by omega)) (by kernel_rfl) rfl ?_
  refine SW.defer 3 (by repeat (first | refine NP.then ?_ | refine NP.inBlock ?_ | exact NP.body)) (by kernel_rfl) rfl (fun R => Ev.ld1 (Opd.mk rfl) (some_getD 0 (by omega)) Tryz.underlying3 trivial rfl) (by kernel_rfl) rfl ?_
  refine SW.defer 4 (by repeat (first | refine NP.then ?_ | refine NP.inBlock ?_ | exact NP.body)) (by kernel_rfl) rfl (fun R => Ev.ldcel (Opd.mk rfl) Tryz.underlying25 trivial) (by kernel_rfl) rfl ?_
  refine SW.defer 5 (by repeat (first | refine NP.then ?_ | refine NP.inBlock ?_ | exact NP.body)) (by kernel_rfl) rfl (fun R => Ev.move (Opd.mk rfl)) (by kernel_rfl) rfl ?_
  refine SW.defer 6 (by repeat (first | refine NP.then ?_ | refine NP.inBlock ?_ | exact NP.body)) (by kernel_rfl) rfl (fun R => Ev.idxaddr (k := b) (Opd.mk rfl) (Opd.mk rfl) Tryz.underlying25 sz3 (by omega) (by omega)) (by kernel_rfl) rfl ?_
  refine SW.defer 7 (by repeat (first | refine NP.then ?_ | refine NP.inBlock ?_ | exact NP.body)) (by kernel_rfl) rfl (fun R => Ev.ld1 (Opd.mk rfl) (some_getD 0 (by omega)) Tryz.underlying3 trivial rfl) (by kernel_rfl) rfl ?_
  refine SW.defer 8 (by repeat (first | refine NP.then ?_ | refine NP.inBlock ?_ | exact NP.body)) (by kernel_rfl) rfl (fun R => Ev.call (Compare_spec _ _) cb41 (Opds.cons (Opd.mk rfl) (Opds.cons (Opd.mk rfl) Opds.nil))) (by kernel_rfl) rfl ?_
  refine SW.defer 9 (by repeat (first | refine NP.then ?_ | refine NP.inBlock ?_ | exact NP.body)) (by kernel_rfl) rfl (fun R => Ev.ldcel (Opd.mk rfl) Tryz.underlying104 trivial) (by kernel_rfl) rfl ?_
  refine SW.defer 10 (by repeat (first | refine NP.then ?_ | refine NP.inBlock ?_ | exact NP.body)) (by kernel_rfl) rfl (fun R => Ev.move (Opd.mk rfl)) (by kernel_rfl) rfl ?_
  refine SW.defer 11 (by repeat (first | refine NP.then ?_ | refine NP.inBlock ?_ | exact NP.body)) (by kernel_rfl) rfl (fun R => Ev.callc (build3_specC p L rk hrk hL bs bn br vr a ha) cb73 (Opd.mk rfl) (Opds.cons (Opd.mk rfl) Opds.nil)) (by kernel_rfl) rfl ?_
  refine SW.defer 12 (by repeat (first | refine NP.then ?_ | refine NP.inBlock ?_ | exact NP.body)) (by kernel_rfl) rfl (fun R => Ev.ldcel (Opd.mk rfl) Tryz.underlying104 trivial) (by kernel_rfl) rfl ?_
  refine SW.defer 13 (by repeat (first | refine NP.then ?_ | refine NP.inBlock ?_ | exact NP.body)) (by kernel_rfl) rfl (fun R => Ev.move (Opd.mk rfl)) (by kernel_rfl) rfl ?_
  refine SW.defer 14 (by repeat (first | refine NP.then ?_ | refine NP.inBlock ?_ | exact NP.body)) (by kernel_rfl) rfl (fun R => Ev.callc (build3_specC p L rk hrk hL bs bn br vr b hb) cb73 (Opd.mk rfl) (Opds.cons (Opd.mk rfl) Opds.nil)) (by kernel_rfl) rfl ?_
  refine SW.defer 15 (by repeat (first | refine NP.then ?_ | refine NP.inBlock ?_ | exact NP.body)) (by kernel_rfl) rfl (fun R => Ev.call (Compare_spec _ _) cb41 (Opds.cons (Opd.mk rfl) (Opds.cons (Opd.mk rfl) Opds.nil))) (by kernel_rfl) rfl ?_
  refine SW.turn1 (i := 16) (by kernel_rfl) rfl ?_
  refine St.buildSl (xs := [(Operand.tmp 15), (Operand.tmp 22)]) (ps := [(0, (Operand.tmp 15)), (1, (Operand.tmp 22))]) rfl (Opds.cons (Opd.mk rfl) (Opds.cons (Opd.mk rfl) Opds.nil)) Tryz.underlying25 sz3 zv3 rfl rfl (by simp [Value.cells]) rfl rfl (fun b23 => ?_)
  refine St.nil ?_
  refine St.then_normal ?_
  refine SW.go ?_
  refine SW.turn1 (i := 17) (by kernel_rfl) rfl ?_
  refine St.ev _ (Ev.callL (Or_spec _ [sgn (rk.getD a 0) (rk.getD b 0), sgn (second p L (fun i => rk.getD i 0) a) (second p L (fun i => rk.getD i 0) b)]) cb40 (Opds.cons (Opd.mk rfl) Opds.nil) (Lent.row Lent.nil rfl rfl rfl (by intro x hx; simp at hx; rcases hx with rfl | rfl <;> exact sgn_wf _ _))) rfl ?_
  refine St.nil ?_
  refine St.then_normal ?_
  refine SW.go ?_
  refine SW.defer 18 (by repeat (first | refine NP.then ?_ | refine NP.inBlock ?_ | exact NP.body)) (by kernel_rfl) rfl (fun R => Ev.assign (Opd.mk rfl)) (by kernel_rfl) rfl ?_
  refine SW.done (by kernel_rfl) ?_
  refine St.then_normal ?_
  refine St.rett ?_
  refine St.rets [_] [] Tryz.results74 ⟨rfl, trivial⟩ ?_ (fun _ hw => hw.sub)
  exact ie (by rw [or_two]; rfl)

end Go.Proofs.YtgikcbfdonjggaaGreatDoor

/-
  (YtgikcbfdonjggaaGreatDoorLay)
  The library's sort by a comparison, laid at this program: its functions are those that the contract was proved of.
  Conditions: none.
-/
namespace Go.Proofs
open Go.Shelf
def Tryz.laysSlF6_f94_ren : Go.Shelf.Ren := ⟨fun | 6 => 94 | 15 => 44 | 14 => 103 | 28 => 66 | 29 => 67 | 20 => 118 | 21 => 119 | 22 => 120 | 23 => 121 | 24 => 122 | 25 => 123 | 26 => 124 | 27 => 125 | 46 => 130 | 47 => 90 | 48 => 91 | 49 => 131 | 50 => 132 | 57 => 135 | n => n, fun | 22 => 25 | 24 => 3 | 25 => 76 | 3 => 3 | 39 => 80 | 0 => 0 | 53 => 99 | 55 => 101 | 4 => 4 | 46 => 93 | 45 => 92 | 50 => 81 | 5 => 5 | 9 => 9 | 66 => 118 | 70 => 122 | 76 => 132 | 77 => 133 | n => n, fun | n => n⟩
theorem Tryz.laysSlF6_f94 : Go.Proofs.SlLaysF.n6 Tryz.prog Tryz.laysSlF6_f94_ren := {
  mixed := by kernel_rfl
  f6 := ⟨Tryz.f94.name, by decide, Tryz.func94.trans (congrArg some (by kernel_rfl))⟩
  f14 := ⟨Tryz.f103.name, by decide, Tryz.func103.trans (congrArg some (by kernel_rfl))⟩
  f15 := Tryz.func44.trans (congrArg some (by kernel_rfl))
  f20 := ⟨Tryz.f118.name, by decide, Tryz.func118.trans (congrArg some (by kernel_rfl))⟩
  f21 := ⟨Tryz.f119.name, by decide, Tryz.func119.trans (congrArg some (by kernel_rfl))⟩
  f22 := ⟨Tryz.f120.name, by decide, Tryz.func120.trans (congrArg some (by kernel_rfl))⟩
  f23 := ⟨Tryz.f121.name, by decide, Tryz.func121.trans (congrArg some (by kernel_rfl))⟩
  f24 := ⟨Tryz.f122.name, by decide, Tryz.func122.trans (congrArg some (by kernel_rfl))⟩
  f25 := ⟨Tryz.f123.name, by decide, Tryz.func123.trans (congrArg some (by kernel_rfl))⟩
  f26 := ⟨Tryz.f124.name, by decide, Tryz.func124.trans (congrArg some (by kernel_rfl))⟩
  f27 := ⟨Tryz.f125.name, by decide, Tryz.func125.trans (congrArg some (by kernel_rfl))⟩
  f28 := Tryz.func66.trans (congrArg some (by kernel_rfl))
  f29 := Tryz.func67.trans (congrArg some (by kernel_rfl))
  f46 := ⟨Tryz.f130.name, by decide, Tryz.func130.trans (congrArg some (by kernel_rfl))⟩
  f47 := Tryz.func90.trans (congrArg some (by kernel_rfl))
  f48 := Tryz.func91.trans (congrArg some (by kernel_rfl))
  f49 := ⟨Tryz.f131.name, by decide, Tryz.func131.trans (congrArg some (by kernel_rfl))⟩
  f50 := ⟨Tryz.f132.name, by decide, Tryz.func132.trans (congrArg some (by kernel_rfl))⟩
  f57 := ⟨Tryz.f135.name, by decide, Tryz.func135.trans (congrArg some (by kernel_rfl))⟩
  t0 := Tryz.underlying0
  a0 := Tryz.isAgg0
  z0 := Tryz.sizeOf0
  v0 := Tryz.zeroValue0
  t3 := Tryz.underlying3
  a3 := Tryz.isAgg3
  z3 := Tryz.sizeOf3
  v3 := Tryz.zeroValue3
  t4 := Tryz.underlying4
  a4 := Tryz.isAgg4
  z4 := Tryz.sizeOf4
  v4 := Tryz.zeroValue4
  t5 := Tryz.underlying5
  a5 := Tryz.isAgg5
  z5 := Tryz.sizeOf5
  v5 := Tryz.zeroValue5
  t9 := Tryz.underlying9
  a9 := Tryz.isAgg9
  z9 := Tryz.sizeOf9
  v9 := Tryz.zeroValue9
  t22 := Tryz.underlying25
  a22 := Tryz.isAgg25
  z22 := Tryz.sizeOf25
  v22 := Tryz.zeroValue25
  a24 := Tryz.isAgg3
  z24 := Tryz.sizeOf3
  t25 := Tryz.underlying76
  a25 := Tryz.isAgg76
  z25 := Tryz.sizeOf76
  v25 := Tryz.zeroValue76
  t39 := Tryz.underlying80
  a39 := Tryz.isAgg80
  z39 := Tryz.sizeOf80
  v39 := Tryz.zeroValue80
  t45 := Tryz.underlying92
  a45 := Tryz.isAgg92
  z45 := Tryz.sizeOf92
  v45 := Tryz.zeroValue92
  t46 := Tryz.underlying93
  a46 := Tryz.isAgg93
  z46 := Tryz.sizeOf93
  v46 := Tryz.zeroValue93
  t50 := Tryz.underlying81
  a50 := Tryz.isAgg81
  z50 := Tryz.sizeOf81
  v50 := Tryz.zeroValue81
  t53 := Tryz.underlying99
  a53 := Tryz.isAgg99
  z53 := Tryz.sizeOf99
  v53 := Tryz.zeroValue99
  t55 := Tryz.underlying101
  a55 := Tryz.isAgg101
  z55 := Tryz.sizeOf101
  v55 := Tryz.zeroValue101
  t66 := Tryz.underlying118
  a66 := Tryz.isAgg118
  z66 := Tryz.sizeOf118
  v66 := Tryz.zeroValue118
  t70 := Tryz.underlying122
  a70 := Tryz.isAgg122
  z70 := Tryz.sizeOf122
  v70 := Tryz.zeroValue122
  t76 := Tryz.underlying132
  a76 := Tryz.isAgg132
  z76 := Tryz.sizeOf132
  v76 := Tryz.zeroValue132
  t77 := Tryz.underlying133
  a77 := Tryz.isAgg133
  z77 := Tryz.sizeOf133
  v77 := Tryz.zeroValue133 }
end Go.Proofs

/-
  (YtgikcbfdonjggaaGreatDoorW2)
  The walks of the ranks and of the sort of suffixes by beginnings that are twice as long.
  Conditions: a list of at most 2000 numbers.
-/
set_option maxRecDepth 20000
set_option linter.unusedSimpArgs false
set_option linter.unusedVariables false
namespace Go.Proofs.YtgikcbfdonjggaaGreatDoor
open Go Go.J

theorem sort49_spec {n : Nat} {key : Nat → List Int} {cf : Nat → Nat → Int} (hK : KeyCmp n key cf) (g : Nat) (hcb : Callable Tryz.prog g) (caps : List Value) (D : Dat)
    (hcl : ∀ a b, a < n → b < n → FnV Tryz.prog g ([iv a, iv b] ++ caps).toArray [D] (iv (cf a b))) (v : Value) (l0 : List Nat) (hp0 : l0.Perm (List.range n)) (hn : n ≤ 2000) :
    FnH Tryz.prog 94 #[v, .func (.func g) #[] caps.toArray] ([D].map dat ++ [row v 3 1 n (rows intR (ints l0))]) (fun u H' => u = .tuple #[] ∧ ∃ l : List Nat, l.Perm (List.range n) ∧ Sorted cf l ∧ H' = [row v 3 1 n (rows intR (ints l))]) :=
  sortKeys_spec Tryz.laysSlF6_f94 hK g hcb caps D hcl v 3 l0 hp0 (by omega)
theorem build1_specC (p : List Int) (bp : Nat) (vp : Value) (a b : Nat) (ha : a < p.length) (hb : b < p.length) : FnV Tryz.prog 70 ([iv a, iv b] ++ [Value.pointer (some ⟨bp, 0, none⟩)]).toArray [cel bp vp, sl intR vp p] (iv (sgn (p.getD a 0) (p.getD b 0))) := build1_spec p bp vp a b ha hb
theorem build2_specC (l : List Nat) (rk : List Int) (bo br : Nat) (vo vr : Value) (i : Nat) (hi : i < rk.length) (h0 : 0 ≤ rk.getD i 0) (h1 : rk.getD i 0 < l.length) :
    FnV Tryz.prog 71 ([iv i] ++ [Value.pointer (some ⟨bo, 0, none⟩), Value.pointer (some ⟨br, 0, none⟩)]).toArray [cel bo vo, cel br vr, sl intR vo (ints l), sl intR vr rk] (.bool (!decide (l.getD (rk.getD i 0).toNat 0 = i))) := build2_spec l rk bo br vo vr i hi h0 h1
theorem build4_specC (p : List Int) (L : Nat) (rk : List Int) (hrk : rk.length = p.length) (hL : p.length ≤ 2000 ∧ L ≤ 4000) (bs bn br b2 : Nat) (vr : Value) (a b : Nat) (ha : a < p.length) (hb : b < p.length) :
    FnV Tryz.prog 74 ([iv a, iv b] ++ [Value.pointer (some ⟨br, 0, none⟩), Value.pointer (some ⟨b2, 0, none⟩)]).toArray [cel br vr, cel b2 (.func (.func 73) #[] #[Value.pointer (some ⟨bs, 0, none⟩), Value.pointer (some ⟨bn, 0, none⟩), Value.pointer (some ⟨br, 0, none⟩)]), cel bs (iv L), cel bn (iv p.length), sl intR vr rk] (iv (cfR p L (fun i => rk.getD i 0) a b)) :=
  build4_spec p L rk hrk hL bs bn br b2 vr a b ha hb
/-- where the sort stands: beginnings of length L are in order, and ranked -/
structure BI (p : List Int) (L : Nat) (l : List Nat) (rk : List Int) : Prop where
  pos : 0 < L
  top : L ≤ 4000
  perm : l.Perm (List.range p.length)
  srt : ∃ cf, KeyCmp p.length (pre p L) cf ∧ Sorted cf l ∧ Ranks cf l rk
theorem BI.len {p : List Int} {L : Nat} {l : List Nat} {rk : List Int} (h : BI p L l rk) : l.length = p.length ∧ rk.length = p.length := by
  obtain ⟨cf, _, _, h3⟩ := h.srt
  have := h.perm.length_eq
  rw [List.length_range] at this
  exact ⟨this, by rw [h3.1, this]⟩
theorem BI.rank {p : List Int} {L : Nat} {l : List Nat} {rk : List Int} (h : BI p L l rk) : IsRank p L (fun i => rk.getD i 0) := by
  obtain ⟨cf, h1, h2, h3⟩ := h.srt
  exact ranks_is h1 h.perm h2 h3
def tiedB (l : List Nat) (rk : List Int) (z : Int) : Bool := !decide (l.getD (rk.getD z.toNat 0).toNat 0 = z.toNat)
theorem BI.done {p : List Int} {L : Nat} {l : List Nat} {rk : List Int} (h : BI p L l rk) (ht : (ints l).any (tiedB l rk) = false) : IsSuf p l := by
  obtain ⟨cf, h1, h2, h3⟩ := h.srt
  refine suf_done h1 h.perm h2 h3 fun i hi => ?_
  have := List.any_eq_false.1 ht (i : Int) (List.mem_map_of_mem hi)
  simpa [tiedB] using this
theorem BI.more {p : List Int} {L : Nat} {l : List Nat} {rk : List Int} (h : BI p L l rk) (ht : (ints l).any (tiedB l rk) = true) : L < p.length := by
  obtain ⟨cf, h1, h2, h3⟩ := h.srt
  obtain ⟨z, hz, hq⟩ := List.any_eq_true.1 ht
  obtain ⟨i, hi, rfl⟩ := List.mem_map.1 hz
  exact suf_more h1 h.perm h2 h3 hi (by simpa [tiedB] using hq)
theorem BI.next {p : List Int} {L : Nat} {l l' : List Nat} {rk rk' : List Int} (h : BI p L l rk) (hn : p.length ≤ 2000) (hL : L < p.length) (hp : l'.Perm (List.range p.length)) (hs : Sorted (cfR p L (fun i => rk.getD i 0)) l') (hr : Ranks (cfR p L (fun i => rk.getD i 0)) l' rk') : BI p (L * 2) l' rk' :=
  ⟨by have := h.pos; omega, by omega, hp, _, by rw [Nat.mul_two]; exact cfR_key h.pos h.rank, hs, hr⟩

theorem ranked_spec (n : Nat) (hn : n ≤ 2000) (key : Nat → List Int) (cf : Nat → Nat → Int) (hK : KeyCmp n key cf) (g : FuncId) (hcb : Callable Tryz.prog g) (caps : List Value) (D : Dat) (hcl : ∀ a b, a < n → b < n → FnV Tryz.prog g ([iv a, iv b] ++ caps).toArray [D] (iv (cf a b))) (vo : Value) (l0 : List Nat) (hp0 : l0.Perm (List.range n)) :
    FnH Tryz.prog 69 #[vo, .func (.func g) #[] caps.toArray] ([D].map dat ++ [row vo 3 1 n (rows intR (ints l0))]) (fun u H' => ∃ (l : List Nat) (rk : List Int), l.Perm (List.range n) ∧ Sorted cf l ∧ Ranks cf l rk ∧ u.oneCell' = true ∧ H' = [row vo 3 1 n (rows intR (ints l)), row u 3 1 n (rows intR rk)]) := by
  refine FnH.body (args := [vo, .func (.func g) #[] caps.toArray]) 51 Tryz.func69 rfl Tryz.ntmps69 rfl (fun c => ?_)
  refine St.seq ?_
  refine St.cast (H' := [dat D, row vo 3 1 n (rows intR (ints l0))]) rfl ?_
  refine St.rg ?_
  refine St.ev _ (Ev.assign (Opd.mk rfl)) rfl ?_
  refine St.nil ?_
  refine St.then_normal ?_
  refine St.seq ?_
  refine St.rg ?_
  refine St.ev _ (Ev.move (Opd.mk rfl)) rfl ?_
  refine St.ev _ (Ev.move (Opd.mk rfl)) rfl ?_
  refine St.callO  (ds := [D]) (L := [row vo 3 1 n (rows intR (ints l0))]) (R := _) (sort49_spec hK g hcb caps D hcl vo l0 hp0 hn) cb94 (Opds.cons (Opd.mk rfl) (Opds.cons (Opd.mk rfl) Opds.nil)) (LentO.alld) (Solid.row Solid.nil) (fun u H' h => by obtain ⟨_, _, _, _, rfl⟩ := h; exact Solid.row Solid.nil) rfl ?_
  rintro v10 _ ⟨_, l, hp, hs, rfl⟩
  refine St.appr ?_
  have hll : l.length = n := by rw [hp.length_eq, List.length_range]
  refine St.nil ?_
  refine St.then_normal ?_
  refine St.seq ?_
  refine St.rg ?_
  refine St.ev _ (Ev.move (Opd.mk rfl)) rfl ?_
  refine St.ev _ (Ev.lenrow (Opd.mk rfl) Tryz.underlying25) rfl ?_
  refine St.makeSl (m := n) (Opd.mk rfl) (Opd.mk rfl) Tryz.underlying25 sz3 zv3 by3 rfl rfl (by omega) rfl rfl (fun b13 => ?_)
  refine St.ev _ (Ev.assign (Opd.mk rfl)) rfl ?_
  refine St.nil ?_
  refine St.then_normal ?_
  refine St.seq ?_
  refine St.seq ?_
  refine St.rg ?_
  refine St.ev _ (Ev.move (Opd.mk rfl)) rfl ?_
  refine St.ev _ (Ev.lenrow (Opd.mk rfl) Tryz.underlying25) rfl ?_
  refine St.ev _ (Ev.move (Opd.mk rfl)) rfl ?_
  refine St.nil ?_
  refine St.then_normal ?_
  refine St.block ?_
  refine St.rowEq (.slice (some ⟨b13, 0, none⟩) n n) (show _ = rows intR (List.replicate n 0) from (rows_replicate rfl _).symm) ?_
  refine St.loopH (ι := Nat × List Int) (fun x T => (16, iv x.1) :: T) (fun x => [row vo 3 1 n (rows intR (ints l)), row (.slice (some ⟨b13, 0, none⟩) n n) 3 1 n (rows intR x.2), dat D]) (fun x => x.1 ≤ n ∧ x.2.length = n ∧ ∀ j, j < x.1 → x.2.getD (l.getD j 0) 0 = rkAt cf l j) (fun x => n - x.1) (0, List.replicate n 0) (Keep.cons 0 rfl (Keep.cons 1 rfl (Keep.cons 4 rfl (Keep.cons 5 rfl (Keep.cons 14 rfl (Keep.cons 15 rfl Keep.nil)))))) ⟨Nat.zero_le _, by simp, fun j hj => absurd hj (Nat.not_lt_zero j)⟩ (by repeat (first | exact Sub.nil | refine Sub.cons (by first | rfl | exact congrArg (fun z => some (iv z)) (by first | omega | (dsimp only; omega)) | exact congrArg (fun z => some (Value.bool z)) (by first | assumption | exact Eq.symm (by assumption))) ?_)) (fun _ hw => hw.sub) ?_
  intro x hphi
  obtain ⟨hk, hrl, hinv⟩ := hphi
  refine St.seq ?_
  refine St.rg ?_
  refine St.ev _ (Ev.lss (Opd.mk rfl) (Opd.mk rfl)) rfl ?_
  refine St.nil ?_
  refine St.then_normal ?_
  refine St.seq ?_
  refine St.cond _ rfl (fun h17 => ?_) (fun h17 => ?_)
  · skip
    try simp only [Bool.and_true, Bool.true_and, decide_eq_true_eq, decide_eq_false_iff_not, Bool.and_eq_true, Bool.or_eq_true, Bool.and_eq_false_iff, Bool.or_eq_false_iff, Bool.not_eq_true', Bool.not_eq_false', beq_iff_eq, beq_eq_false_iff_ne, Int.not_lt, Int.not_le] at h17
    have hk1 : x.1 < n := by omega
    have hb := perm_lt hp hk1
    refine St.skip ?_
    refine St.then_normal ?_
    refine St.seq ?_
    refine St.block ?_
    refine St.seq ?_
    refine St.rg ?_
    refine St.ev _ (Ev.move (Opd.mk rfl)) rfl ?_
    refine St.ev _ (Ev.idxaddrrow (k := x.1) (Opd.mk rfl) (Opd.mk rfl) Tryz.underlying25 sz3 (by omega) (by omega)) rfl ?_
    refine St.ev _ (Ev.ldrow (Opd.mk rfl) Tryz.underlying3 trivial (by omega) (rowI2 (by omega))) rfl ?_
    refine St.ev _ (Ev.assign (Opd.mk rfl)) rfl ?_
    refine St.ev _ (Ev.assign (Opd.mk rfl)) rfl ?_
    refine St.nil ?_
    refine St.then_normal ?_
    refine St.seq ?_
    refine St.rg ?_
    refine St.ev _ (Ev.move (Opd.mk rfl)) rfl ?_
    refine St.ev _ (Ev.move (Opd.mk rfl)) rfl ?_
    refine St.ev _ (Ev.move (Opd.mk rfl)) rfl ?_
    refine St.ev _ (Ev.idxaddrrow (k := (l.getD x.1 0)) (Opd.mk rfl) (Opd.mk rfl) Tryz.underlying25 sz3 (by omega) hb) rfl ?_
    refine St.storerow (Opd.mk rfl) (Opd.mk rfl) sz3 rfl hb (by decide) ?_
    refine St.rowEq (.slice (some ⟨b13, 0, none⟩) n n) (rowI_set _ _ _) ?_
    refine St.nil ?_
    refine St.then_normal ?_
    refine St.seq ?_
    refine St.rg ?_
    refine St.ev _ (Ev.move (Opd.mk rfl)) rfl ?_
    refine St.ev _ (Ev.gtr (Opd.mk rfl) (Opd.mk rfl)) rfl ?_
    refine St.ev _ (Ev.move (Opd.mk rfl)) rfl ?_
    refine St.gt _ rfl rfl (fun hg => Ev.move (Opd.mk rfl)) rfl ?_
    refine St.gt _ rfl rfl (fun hg => Ev.move (Opd.mk rfl)) rfl ?_
    refine St.gt _ rfl rfl (fun hg => Ev.move (Opd.mk rfl)) rfl ?_
    refine St.gt _ rfl rfl (fun hg => Ev.sub (Opd.gv rfl hg) (Opd.mk rfl) (by omega)) rfl ?_
    refine St.gt _ rfl rfl (fun hg => Ev.idxaddrrow (k := (x.1 - 1)) (Opd.gv rfl hg) (Opd.gv rfl hg) Tryz.underlying25 sz3 (by first | omega | (simp only [Bool.and_true, Bool.true_and, decide_eq_true_eq, decide_eq_false_iff_not, Bool.and_eq_true, Bool.or_eq_true, Bool.and_eq_false_iff, Bool.or_eq_false_iff, Bool.not_eq_true', Bool.not_eq_false', beq_iff_eq, beq_eq_false_iff_ne, Int.not_lt, Int.not_le] at hg; omega)) (by omega)) rfl ?_
    refine St.gt _ rfl rfl (fun hg => Ev.ldrow (Opd.gv rfl hg) Tryz.underlying3 trivial (by omega) (rowI2 (by omega))) rfl ?_
    refine St.gt _ rfl rfl (fun hg => Ev.move (Opd.mk rfl)) rfl ?_
    refine St.gt _ rfl rfl (fun hg => Ev.callc (hcl (l.getD (x.1 - 1) 0) (l.getD x.1 0) (perm_lt hp (by omega)) hb) hcb (Opd.gv rfl hg) (Opds.cons (Opd.gv rfl hg) (Opds.cons (Opd.gv rfl hg) Opds.nil))) rfl ?_
    refine St.gt _ rfl rfl (fun hg => Ev.eql (Opd.gv rfl hg) (Opd.mk rfl)) rfl ?_
    refine St.ev _ (Ev.and (Opd.mk rfl) (fun hp => Opd.gv rfl hp)) rfl ?_
    refine St.nil ?_
    refine St.then_normal ?_
    refine St.cond _ rfl (fun h37 => ?_) (fun h37 => ?_)
    · skip
      try simp only [Bool.and_true, Bool.true_and, decide_eq_true_eq, decide_eq_false_iff_not, Bool.and_eq_true, Bool.or_eq_true, Bool.and_eq_false_iff, Bool.or_eq_false_iff, Bool.not_eq_true', Bool.not_eq_false', beq_iff_eq, beq_eq_false_iff_ne, Int.not_lt, Int.not_le] at h37
      have hb2 := perm_lt hp (show x.1 - 1 < n by omega)
      have hc : 0 < x.1 ∧ cf (l.getD (x.1 - 1) 0) (l.getD x.1 0) = 0 := ⟨by omega, h37.2⟩
      refine St.rg ?_
      refine St.ev _ (Ev.move (Opd.mk rfl)) rfl ?_
      refine St.ev _ (Ev.move (Opd.mk rfl)) rfl ?_
      refine St.ev _ (Ev.move (Opd.mk rfl)) rfl ?_
      refine St.ev _ (Ev.move (Opd.mk rfl)) rfl ?_
      refine St.ev _ (Ev.move (Opd.mk rfl)) rfl ?_
      refine St.ev _ (Ev.sub (Opd.mk rfl) (Opd.mk rfl) (by omega)) rfl ?_
      refine St.ev _ (Ev.idxaddrrow (k := (x.1 - 1)) (Opd.mk rfl) (Opd.mk rfl) Tryz.underlying25 sz3 (by omega) (by omega)) rfl ?_
      refine St.ev _ (Ev.ldrow (Opd.mk rfl) Tryz.underlying3 trivial (by omega) (rowI2 (by omega))) rfl ?_
      refine St.ev _ (Ev.idxaddrrow (k := (l.getD (x.1 - 1) 0)) (Opd.mk rfl) (Opd.mk rfl) Tryz.underlying25 sz3 (by omega) hb2) rfl ?_
      refine St.ev _ (Ev.ldrow (Opd.mk rfl) Tryz.underlying3 trivial hb2 (rowI (by rw [List.length_set, hrl]; exact hb2))) rfl ?_
      refine St.ev _ (Ev.idxaddrrow (k := (l.getD x.1 0)) (Opd.mk rfl) (Opd.mk rfl) Tryz.underlying25 sz3 (by omega) hb) rfl ?_
      refine St.storerow (Opd.mk rfl) (Opd.mk rfl) sz3 rfl hb (by decide) ?_
      refine St.rowEq (.slice (some ⟨b13, 0, none⟩) n n) (rowI_set _ _ _) ?_
      refine St.nil ?_
      refine St.in_normal ?_
      refine St.then_normal ?_
      refine St.rg ?_
      refine St.ev _ (Ev.add (Opd.mk rfl) (Opd.mk rfl) (by omega)) rfl ?_
      refine St.ev _ (Ev.move (Opd.mk rfl)) rfl ?_
      refine St.nil ?_
      refine St.then_normal ?_
      refine St.againH (x.1 + 1, ((x.2.set (l.getD x.1 0) (x.1 : Int)).set (l.getD x.1 0) ((x.2.set (l.getD x.1 0) (x.1 : Int)).getD (l.getD (x.1 - 1) 0) 0))) ⟨hk1, by simp [hrl], ranked_t hp hk1 hrl hinv hc⟩ (by first | omega | (dsimp only; omega)) (by repeat (first | exact Sub.nil | refine Sub.cons (by first | rfl | exact congrArg (fun z => some (iv z)) (by first | omega | (dsimp only; omega)) | exact congrArg (fun z => some (Value.bool z)) (by first | assumption | exact Eq.symm (by assumption))) ?_)) (fun _ hw => hw.sub)
    · skip
      try simp only [Bool.and_true, Bool.true_and, decide_eq_true_eq, decide_eq_false_iff_not, Bool.and_eq_true, Bool.or_eq_true, Bool.and_eq_false_iff, Bool.or_eq_false_iff, Bool.not_eq_true', Bool.not_eq_false', beq_iff_eq, beq_eq_false_iff_ne, Int.not_lt, Int.not_le] at h37
      have hc : ¬ (0 < x.1 ∧ cf (l.getD (x.1 - 1) 0) (l.getD x.1 0) = 0) := by rintro ⟨q1, q2⟩; rcases h37 with q | q; omega; exact q q2
      refine St.skip ?_
      refine St.in_normal ?_
      refine St.then_normal ?_
      refine St.rg ?_
      refine St.ev _ (Ev.add (Opd.mk rfl) (Opd.mk rfl) (by omega)) rfl ?_
      refine St.ev _ (Ev.move (Opd.mk rfl)) rfl ?_
      refine St.nil ?_
      refine St.then_normal ?_
      refine St.againH (x.1 + 1, x.2.set (l.getD x.1 0) (x.1 : Int)) ⟨hk1, by simp [hrl], ranked_f hp hk1 hrl hinv hc⟩ (by first | omega | (dsimp only; omega)) (by repeat (first | exact Sub.nil | refine Sub.cons (by first | rfl | exact congrArg (fun z => some (iv z)) (by first | omega | (dsimp only; omega)) | exact congrArg (fun z => some (Value.bool z)) (by first | assumption | exact Eq.symm (by assumption))) ?_)) (fun _ hw => hw.sub)
  · skip
    try simp only [Bool.and_true, Bool.true_and, decide_eq_true_eq, decide_eq_false_iff_not, Bool.and_eq_true, Bool.or_eq_true, Bool.and_eq_false_iff, Bool.or_eq_false_iff, Bool.not_eq_true', Bool.not_eq_false', beq_iff_eq, beq_eq_false_iff_ne, Int.not_lt, Int.not_le] at h17
    refine St.exit ?_
    refine St.then_exit ?_
    refine St.then_exit ?_
    refine St.in_hit ?_
    refine St.then_normal ?_
    refine St.seq ?_
    refine St.rg ?_
    refine St.ev _ (Ev.move (Opd.mk rfl)) rfl ?_
    refine St.ev _ (Ev.assign (Opd.mk rfl)) rfl ?_
    refine St.nil ?_
    refine St.then_normal ?_
    refine St.rett ?_
    refine St.rets [_] [row vo 3 1 n (rows intR (ints l)), row (.slice (some ⟨b13, 0, none⟩) n n) 3 1 n (rows intR x.2)] Tryz.results69 ⟨rfl, trivial⟩ ?_ (fun _ hw => hw.sub)
    exact ⟨l, x.2, hp, hs, ⟨by rw [hrl, hll], fun k hk => hinv k (by omega)⟩, rfl, rfl⟩

end Go.Proofs.YtgikcbfdonjggaaGreatDoor

/-
  (YtgikcbfdonjggaaGreatDoorW3)
  The walk of the sort of suffixes.
  Conditions: a list of at most 2000 numbers.
-/
set_option maxRecDepth 20000
set_option linter.unusedSimpArgs false
set_option linter.unusedVariables false
namespace Go.Proofs.YtgikcbfdonjggaaGreatDoor
open Go Go.J

theorem BI.wf {p : List Int} {L : Nat} {l : List Nat} {rk : List Int} (h : BI p L l rk) (hn : p.length ≤ 2000) : ∀ x ∈ rk, intR.wf x := by
  intro x hx
  obtain ⟨i, hi, rfl⟩ := List.mem_iff_getElem.1 hx
  have hb := h.rank.pos i (by rw [← h.len.2]; exact hi)
  simp only [List.getD_eq_getElem?_getD, List.getElem?_eq_getElem hi, Option.getD_some] at hb
  show i64ok rk[i]
  unfold i64ok; omega
theorem BI.mem {p : List Int} {L : Nat} {l : List Nat} {rk : List Int} (h : BI p L l rk) {i : Nat} (hi : i ∈ l) : i < p.length := List.mem_range.1 (h.perm.mem_iff.1 hi)
theorem tied_cl {p : List Int} {L : Nat} {l : List Nat} {rk : List Int} (h : BI p L l rk) (bo br : Nat) (vo vr : Value) :
    ∀ x ∈ ints l, FnV Tryz.prog 71 ([iv x] ++ [Value.pointer (some ⟨bo, 0, none⟩), Value.pointer (some ⟨br, 0, none⟩)]).toArray [allD [cel bo vo, cel br vr, sl intR vo (ints l), sl intR vr rk]] (.bool (tiedB l rk x)) := by
  intro x hx
  obtain ⟨i, hi, rfl⟩ := List.mem_map.1 hx
  have hi' := h.mem hi
  have hb := h.rank.pos i hi'
  exact (build2_specC l rk bo br vo vr i (by rw [h.len.2]; exact hi') hb.1 (by rw [h.len.1]; exact hb.2)).all
theorem BI.init {p : List Int} {l : List Nat} {rk : List Int} (hp : l.Perm (List.range p.length)) (hs : Sorted (fun i j => sgn (p.getD i 0) (p.getD j 0)) l) (hr : Ranks (fun i j => sgn (p.getD i 0) (p.getD j 0)) l rk) : BI p 1 l rk :=
  ⟨by omega, by omega, hp, _, cf1_key, hs, hr⟩

theorem build_spec (v0 : Value) (p : List Int) (hn : p.length ≤ 2000) : FnH Tryz.prog 47 #[v0] ([sl intR v0 p].map dat) (fun u H' => ∃ l : List Nat, IsSuf p l ∧ u.oneCell' = true ∧ H' = [row u 3 1 p.length (rows intR (ints l))]) := by
  refine FnH.body (args := [v0]) 39 Tryz.func47 rfl Tryz.ntmps47 rfl (fun c => ?_)
  refine St.seq ?_
  refine St.cast (H' := [dat (sl intR v0 p)]) rfl ?_
  refine St.wf v0 (fun hwf hlen => ?_)
  refine St.shape v0 (fun ad cp hsh _ => ?_)
  have hv0 : v0.oneCell' = true := by rw [hsh]; rfl
  refine St.rg ?_
  refine St.box1 (Opd.mk rfl) hv0 rfl (fun b1 => ?_)
  refine St.ev _ (Ev.assign (Opd.mk rfl)) rfl ?_
  refine St.nil ?_
  refine St.then_normal ?_
  refine St.seq ?_
  refine St.rg ?_
  refine St.ev _ (Ev.ldb (Opd.mk rfl) Tryz.underlying25 trivial (by rfl)) rfl ?_
  refine St.ev _ (Ev.lensl (Opd.mk rfl) Tryz.underlying25) rfl ?_
  refine St.alloc zc3 rfl (fun b3 => ?_)
  refine St.store1 (Opd.mk rfl) (Opd.mk rfl) sz3 rfl (by rfl) ?_
  refine St.nil ?_
  refine St.then_normal ?_
  refine St.seq ?_
  refine St.rg ?_
  refine St.ev _ (Ev.ldb (Opd.mk rfl) Tryz.underlying3 trivial (by rfl)) rfl ?_
  refine St.makeSl (m := p.length) (Opd.mk rfl) (Opd.mk rfl) Tryz.underlying25 sz3 zv3 by3 rfl rfl (by omega) rfl rfl (fun b13 => ?_)
  refine St.alloc zc25 rfl (fun b4 => ?_)
  refine St.store1 (Opd.mk rfl) (Opd.mk rfl) sz25 rfl (by rfl) ?_
  refine St.nil ?_
  refine St.then_normal ?_
  refine St.seq ?_
  refine St.seq ?_
  refine St.rg ?_
  refine St.ev _ (Ev.ldb (Opd.mk rfl) Tryz.underlying25 trivial (by rfl)) rfl ?_
  refine St.ev _ (Ev.lenrow (Opd.mk rfl) Tryz.underlying25) rfl ?_
  refine St.ev _ (Ev.move (Opd.mk rfl)) rfl ?_
  refine St.nil ?_
  refine St.then_normal ?_
  refine St.block ?_
  refine St.rowEq (.slice (some ⟨b13, 0, none⟩) p.length p.length) (show _ = rows intR (iotaTo p.length 0) by rw [iotaTo_zero]; exact (rows_replicate rfl _).symm) ?_
  refine St.loopH (ι := Nat) (fun k T => (16, iv k) :: T) (fun k => [row (.slice (some ⟨b13, 0, none⟩) p.length p.length) 3 1 p.length (rows intR (iotaTo p.length k)), blk b4 (.cells [(.slice (some ⟨b13, 0, none⟩) p.length p.length)].toArray 25 (0, 0)), blk b3 (.cells [iv p.length].toArray 3 (0, 0)), blk b1 (.cells [v0].toArray 25 (0, 0)), dat (sl intR v0 p)]) (fun k => k ≤ p.length) (fun k => p.length - k) 0 (Keep.cons 1 rfl (Keep.cons 2 rfl (Keep.cons 3 rfl (Keep.cons 4 rfl (Keep.cons 15 rfl Keep.nil))))) (Nat.zero_le _) (by repeat (first | exact Sub.nil | refine Sub.cons (by first | rfl | exact congrArg (fun z => some (iv z)) (by first | omega | (dsimp only; omega)) | exact congrArg (fun z => some (Value.bool z)) (by first | assumption | exact Eq.symm (by assumption))) ?_)) (fun _ hw => hw.sub) ?_
  intro k hphi
  refine St.seq ?_
  refine St.rg ?_
  refine St.ev _ (Ev.lss (Opd.mk rfl) (Opd.mk rfl)) rfl ?_
  refine St.nil ?_
  refine St.then_normal ?_
  refine St.seq ?_
  refine St.cond _ rfl (fun h17 => ?_) (fun h17 => ?_)
  · skip
    try simp only [Bool.and_true, Bool.true_and, decide_eq_true_eq, decide_eq_false_iff_not, Bool.and_eq_true, Bool.or_eq_true, Bool.and_eq_false_iff, Bool.or_eq_false_iff, Bool.not_eq_true', Bool.not_eq_false', beq_iff_eq, beq_eq_false_iff_ne, Int.not_lt, Int.not_le] at h17
    refine St.skip ?_
    refine St.then_normal ?_
    refine St.seq ?_
    refine St.block ?_
    refine St.seq ?_
    refine St.rg ?_
    refine St.ev _ (Ev.move (Opd.mk rfl)) rfl ?_
    refine St.ev _ (Ev.assign (Opd.mk rfl)) rfl ?_
    refine St.nil ?_
    refine St.then_normal ?_
    refine St.rg ?_
    refine St.ev _ (Ev.ldb (Opd.mk rfl) Tryz.underlying25 trivial (by rfl)) rfl ?_
    refine St.ev _ (Ev.move (Opd.mk rfl)) rfl ?_
    refine St.ev _ (Ev.move (Opd.mk rfl)) rfl ?_
    refine St.ev _ (Ev.idxaddrrow (k := k) (Opd.mk rfl) (Opd.mk rfl) Tryz.underlying25 sz3 (by omega) (by omega)) rfl ?_
    refine St.storerow (Opd.mk rfl) (Opd.mk rfl) sz3 rfl (by omega) (by decide) ?_
    refine St.rowEq (.slice (some ⟨b13, 0, none⟩) p.length p.length) ((rowI_set _ _ _).trans (congrArg (rows intR) (iotaTo_set (by omega)))) ?_
    refine St.nil ?_
    refine St.in_normal ?_
    refine St.then_normal ?_
    refine St.rg ?_
    refine St.ev _ (Ev.add (Opd.mk rfl) (Opd.mk rfl) (by omega)) rfl ?_
    refine St.ev _ (Ev.move (Opd.mk rfl)) rfl ?_
    refine St.nil ?_
    refine St.then_normal ?_
    refine St.againH (k + 1) (by omega) (by first | omega | (dsimp only; omega)) (by repeat (first | exact Sub.nil | refine Sub.cons (by first | rfl | exact congrArg (fun z => some (iv z)) (by first | omega | (dsimp only; omega)) | exact congrArg (fun z => some (Value.bool z)) (by first | assumption | exact Eq.symm (by assumption))) ?_)) (fun _ hw => hw.sub)
  · skip
    try simp only [Bool.and_true, Bool.true_and, decide_eq_true_eq, decide_eq_false_iff_not, Bool.and_eq_true, Bool.or_eq_true, Bool.and_eq_false_iff, Bool.or_eq_false_iff, Bool.not_eq_true', Bool.not_eq_false', beq_iff_eq, beq_eq_false_iff_ne, Int.not_lt, Int.not_le] at h17
    refine St.exit ?_
    refine St.then_exit ?_
    refine St.then_exit ?_
    refine St.in_hit ?_
    refine St.then_normal ?_
    refine St.seq ?_
    refine St.rowEq (.slice (some ⟨b13, 0, none⟩) p.length p.length) (congrArg (rows intR) (iotaTo_end (show p.length ≤ k by omega))) ?_
    refine St.rg ?_
    refine St.ev _ (Ev.ldb (Opd.mk rfl) Tryz.underlying25 trivial (by rfl)) rfl ?_
    refine St.ev _ (Ev.func (Opds.cons (Opd.mk rfl) Opds.nil)) rfl ?_
    refine St.callO  (ds := [allD [cel b1 v0, sl intR v0 p]]) (L := [row (.slice (some ⟨b13, 0, none⟩) p.length p.length) 3 1 p.length (rows intR (ints (List.range p.length)))]) (R := _) (ranked_spec p.length hn (pre p 1) _ cf1_key 70 cb70 [Value.pointer (some ⟨b1, 0, none⟩)] (allD [cel b1 v0, sl intR v0 p]) (fun a b ha hb => (build1_specC p b1 v0 a b ha hb).all) (.slice (some ⟨b13, 0, none⟩) p.length p.length) (List.range p.length) (List.Perm.refl _)) cb69 (Opds.cons (Opd.mk rfl) (Opds.cons (Opd.mk rfl) Opds.nil)) (LentO.allD (LentO.blk (LentO.dat LentO.nil))) (Solid.row Solid.nil) (fun u H' h => by obtain ⟨_, _, _, _, _, _, rfl⟩ := h; exact Solid.row (Solid.row Solid.nil)) rfl ?_
    rintro v26 _ ⟨l0, rk0, hp0, hs0, hr0, h1, rfl⟩
    refine St.appr ?_
    refine St.alloc zc25 rfl (fun b6 => ?_)
    refine St.store1 (Opd.mk rfl) (Opd.mk rfl) sz25 h1 (by rfl) ?_
    refine St.nil ?_
    refine St.then_normal ?_
    refine St.seq ?_
    refine St.rg ?_
    refine St.ev _ (Ev.func (Opds.cons (Opd.mk rfl) (Opds.cons (Opd.mk rfl) Opds.nil))) rfl ?_
    refine St.ev _ (Ev.assign (Opd.mk rfl)) rfl ?_
    refine St.nil ?_
    refine St.then_normal ?_
    refine St.seq ?_
    refine St.seq ?_
    refine St.rg ?_
    refine St.alloc zc3 rfl (fun b8 => ?_)
    refine St.store1 (Opd.mk rfl) (Opd.mk rfl) sz3 rfl (by rfl) ?_
    refine St.nil ?_
    refine St.then_normal ?_
    refine St.block ?_
    refine St.loopH2 (ι := Nat × List Nat × List Int) (κ := Value × Nat) (fun x z T => (8, Value.pointer (some ⟨z.2, 0, none⟩)) :: T) (fun x z => [blk b6 (.cells [z.1].toArray 25 (0, 0)), row z.1 3 1 p.length (rows intR x.2.2), blk z.2 (.cells [iv x.1].toArray 3 (0, 0)), row (.slice (some ⟨b13, 0, none⟩) p.length p.length) 3 1 p.length (rows intR (ints x.2.1)), blk b4 (.cells [(.slice (some ⟨b13, 0, none⟩) p.length p.length)].toArray 25 (0, 0)), blk b3 (.cells [iv p.length].toArray 3 (0, 0)), blk b1 (.cells [v0].toArray 25 (0, 0)), dat (sl intR v0 p)]) (fun x z => BI p x.1 x.2.1 x.2.2 ∧ z.1.oneCell' = true) (fun x z => 2 * p.length - x.1) (1, l0, rk0) (v26, b8) (Keep.cons 2 rfl (Keep.cons 3 rfl (Keep.cons 4 rfl (Keep.cons 6 rfl (Keep.cons 7 rfl Keep.nil))))) ⟨BI.init hp0 hs0 hr0, h1⟩ (by repeat (first | exact Sub.nil | refine Sub.cons (by first | rfl | exact congrArg (fun z => some (iv z)) (by first | omega | (dsimp only; omega)) | exact congrArg (fun z => some (Value.bool z)) (by first | assumption | exact Eq.symm (by assumption))) ?_)) (fun _ hw => hw.sub) ?_
    intro x z hphi
    obtain ⟨hbi, hz1⟩ := hphi
    have hln := hbi.len
    have htop := hbi.top
    have hpos := hbi.pos
    refine St.seq ?_
    refine St.seq ?_
    refine St.rg ?_
    refine St.ev _ (Ev.ldb (Opd.mk rfl) Tryz.underlying25 trivial (by rfl)) rfl ?_
    refine St.ev _ (Ev.move (Opd.mk rfl)) rfl ?_
    refine St.ev _ (Ev.callL (ContainsFunc_spec (.slice (some ⟨b13, 0, none⟩) p.length p.length) (ints x.2.1) 71 cb71 [Value.pointer (some ⟨b4, 0, none⟩), Value.pointer (some ⟨b6, 0, none⟩)] (allD [cel b4 (.slice (some ⟨b13, 0, none⟩) p.length p.length), cel b6 z.1, sl intR (.slice (some ⟨b13, 0, none⟩) p.length p.length) (ints x.2.1), sl intR z.1 x.2.2]) (tiedB x.2.1 x.2.2) (tied_cl hbi b4 b6 (.slice (some ⟨b13, 0, none⟩) p.length p.length) z.1)) cb72 (Opds.cons (Opd.mk rfl) (Opds.cons (Opd.mk rfl) Opds.nil)) (Lent.row (Lent.allD (Lent.blk (Lent.blk (Lent.row (Lent.row Lent.nil rfl rfl hln.2.symm (hbi.wf hn)) rfl rfl (by rw [ints_length, hln.1]) (wf_ints hbi.perm (by omega)))))) rfl rfl (by rw [ints_length, hln.1]) (wf_ints hbi.perm (by omega)))) rfl ?_
    refine St.nil ?_
    refine St.then_normal ?_
    refine St.cond _ rfl (fun h30 => ?_) (fun h30 => ?_)
    · skip
      skip
      have hL := hbi.more h30
      refine St.skip ?_
      refine St.then_normal ?_
      refine St.seq ?_
      refine St.block ?_
      refine St.seq ?_
      refine St.rg ?_
      refine St.ev _ (Ev.func (Opds.cons (Opd.mk rfl) (Opds.cons (Opd.mk rfl) (Opds.cons (Opd.mk rfl) Opds.nil)))) rfl ?_
      refine St.alloc zc104 rfl (fun b9 => ?_)
      refine St.store1 (Opd.mk rfl) (Opd.mk rfl) sz104 rfl (by rfl) ?_
      refine St.nil ?_
      refine St.then_normal ?_
      refine St.rg ?_
      refine St.ev _ (Ev.ldb (Opd.mk rfl) Tryz.underlying25 trivial (by rfl)) rfl ?_
      refine St.ev _ (Ev.func (Opds.cons (Opd.mk rfl) (Opds.cons (Opd.mk rfl) Opds.nil))) rfl ?_
      refine St.callO  (ds := [allD [cel b6 z.1, cel b9 (.func (.func 73) #[] #[Value.pointer (some ⟨z.2, 0, none⟩), Value.pointer (some ⟨b3, 0, none⟩), Value.pointer (some ⟨b6, 0, none⟩)]), cel z.2 (iv x.1), cel b3 (iv p.length), sl intR z.1 x.2.2]]) (L := [row (.slice (some ⟨b13, 0, none⟩) p.length p.length) 3 1 p.length (rows intR (ints x.2.1))]) (R := _) (ranked_spec p.length hn (pre p (x.1 + x.1)) _ (cfR_key hbi.pos hbi.rank) 74 cb74 [Value.pointer (some ⟨b6, 0, none⟩), Value.pointer (some ⟨b9, 0, none⟩)] (allD [cel b6 z.1, cel b9 (.func (.func 73) #[] #[Value.pointer (some ⟨z.2, 0, none⟩), Value.pointer (some ⟨b3, 0, none⟩), Value.pointer (some ⟨b6, 0, none⟩)]), cel z.2 (iv x.1), cel b3 (iv p.length), sl intR z.1 x.2.2]) (fun a b ha hb => (build4_specC p x.1 x.2.2 hln.2 ⟨hn, htop⟩ z.2 b3 b6 b9 z.1 a b ha hb).all) (.slice (some ⟨b13, 0, none⟩) p.length p.length) x.2.1 hbi.perm) cb69 (Opds.cons (Opd.mk rfl) (Opds.cons (Opd.mk rfl) Opds.nil)) (LentO.allD (LentO.blk (LentO.blk (LentO.blk (LentO.blk (LentO.row LentO.nil rfl rfl hln.2.symm (hbi.wf hn))))))) (Solid.row Solid.nil) (fun u H' h => by obtain ⟨_, _, _, _, _, _, rfl⟩ := h; exact Solid.row (Solid.row Solid.nil)) rfl ?_
      rintro v36 _ ⟨l2, rk2, hp2, hs2, hr2, h2, rfl⟩
      refine St.appr ?_
      refine St.store1 (Opd.mk rfl) (Opd.mk rfl) sz25 h2 (by rfl) ?_
      refine St.nil ?_
      refine St.in_normal ?_
      refine St.then_normal ?_
      refine St.seq ?_
      refine St.seq ?_
      refine St.rg ?_
      refine St.ev _ (Ev.ldb (Opd.mk rfl) Tryz.underlying3 trivial (by rfl)) rfl ?_
      refine St.nil ?_
      refine St.then_normal ?_
      refine St.rg ?_
      refine St.alloc zc3 rfl (fun b8 => ?_)
      refine St.store1 (Opd.mk rfl) (Opd.mk rfl) sz3 rfl (by rfl) ?_
      refine St.nil ?_
      refine St.then_normal ?_
      refine St.rg ?_
      refine St.ev _ (Ev.ldb (Opd.mk rfl) Tryz.underlying3 trivial (by rfl)) rfl ?_
      refine St.ev _ (Ev.mul (Opd.mk rfl) (Opd.mk rfl) (by omega)) rfl ?_
      refine St.store1 (Opd.mk rfl) (Opd.mk rfl) sz3 rfl (by rfl) ?_
      refine St.nil ?_
      refine St.then_normal ?_
      refine St.blkEq b8 [iv ((x.1 * 2 : Nat) : Int)] (by rw [Int.natCast_mul]; rfl) ?_
      refine St.againH2 (x.1 * 2, l2, rk2) (v36, b8) ⟨hbi.next hn hL hp2 hs2 hr2, h2⟩ (by show 2 * p.length - x.1 * 2 < 2 * p.length - x.1; omega) (by repeat (first | exact Sub.nil | refine Sub.cons (by first | rfl | exact congrArg (fun z => some (iv z)) (by first | omega | (dsimp only; omega)) | exact congrArg (fun z => some (Value.bool z)) (by first | assumption | exact Eq.symm (by assumption))) ?_)) (fun _ hw => hw.sub)
    · skip
      skip
      refine St.exit ?_
      refine St.then_exit ?_
      refine St.then_exit ?_
      refine St.in_hit ?_
      refine St.then_normal ?_
      refine St.seq ?_
      refine St.rg ?_
      refine St.ev _ (Ev.ldb (Opd.mk rfl) Tryz.underlying25 trivial (by rfl)) rfl ?_
      refine St.ev _ (Ev.assign (Opd.mk rfl)) rfl ?_
      refine St.nil ?_
      refine St.then_normal ?_
      refine St.rett ?_
      refine St.rets [_] [row (.slice (some ⟨b13, 0, none⟩) p.length p.length) 3 1 p.length (rows intR (ints x.2.1))] Tryz.results47 ⟨rfl, trivial⟩ ?_ (fun _ hw => hw.sub)
      exact ⟨x.2.1, hbi.done h30, rfl, rfl⟩

end Go.Proofs.YtgikcbfdonjggaaGreatDoor

/-
  (YtgikcbfdonjggaaGreatDoorJ16)
  The smaller of two numbers, by the language's own word.
  Conditions: none; everything holds of any program.
-/
namespace Go.J
open Go Go.Proofs
section
variable {P : Program} {n : Nat} {F : Fr} {A : World → Prop} {x y : Operand} {ty : TypeId}
theorem Ev.minI {a b : Int} {ats : Array TypeId} (hx : Opd F x (iv a)) (hy : Opd F y (iv b)) :
    Ev P n F A (.call { callee := .builtin .min, args := #[x, y], argTypes := ats }) ty (iv (if b < a then b else a)) := .of_run fun a w ha _ => by
  simp [execOp, resolve, invoke, builtin, hx.eval ha, hy.eval ha, run_min_int2, iv]
end
theorem FnV.body7 {P : Program} {f : FuncId} {fn : Func} {cd : Code} {args : List Value} {u : Value} {d1 d2 d3 d4 d5 d6 d7 : Dat} (n : Nat)
    (hf : P.funcs[f]? = some fn) (hb : fn.body = some cd) (hn : fn.ntmps = n) (hargs : Nat.ble args.length n = true)
    (h : ∀ c : Ctx, St n (argF 0 args) (Mm c [dat d1, dat d2, dat d3, dat d4, dat d5, dat d6, dat d7]) (cd.wp P (bodyPost P fn fun e w' => ∃ v H', e = .returned v ∧ v = u ∧ Mm c H' w'))) : FnV P f args.toArray [d1, d2, d3, d4, d5, d6, d7] u := FnH.body n hf hb hn hargs h
theorem ints_snoc (l : List Nat) (k : Nat) : ints (l ++ [k]) = ints l ++ [(k : Int)] := by
  show (l ++ [k]).map _ = l.map _ ++ _
  rw [List.map_append]; rfl
end Go.J

/-
  (YtgikcbfdonjggaaGreatDoorW4)
  The walks of what the laws are told by: the order, the places, comparing lists, a search.
  Conditions: none beyond the sizes.
-/
set_option maxRecDepth 20000
set_option linter.unusedSimpArgs false
set_option linter.unusedVariables false
namespace Go.Proofs.YtgikcbfdonjggaaGreatDoor
open Go Go.J

theorem int_wf {l : List Nat} (h : ∀ i ∈ l, i ≤ 9223372036854775807) : ∀ x ∈ ints l, intR.wf x := by
  intro x hx
  obtain ⟨i, hi, rfl⟩ := List.mem_map.1 hx
  have := h i hi
  show i64ok (i : Int)
  unfold i64ok; omega
theorem suf_mem {p : List Int} {i : Nat} (hi : i ∈ sufOf p) : i < p.length := List.mem_range.1 ((sufOf_is p).1.mem_iff.1 hi)
theorem suf_len (p : List Int) : (sufOf p).length = p.length := by rw [(sufOf_is p).1.length_eq, List.length_range]
theorem suf_wf {p : List Int} (h : p.length ≤ 4611686018427387904) : ∀ x ∈ ints (sufOf p), intR.wf x := int_wf fun i hi => by have := suf_mem hi; omega
noncomputable def bld (p : List Int) : List Nat := if (sFault p).1 = 0 then sufOf p else []
noncomputable def bothF (p ord : List Int) : Int × Int := if (sFault p).1 ≠ 0 then sFault p else if ord = ints (sufOf p) then (0, 0) else (5, -2)
theorem bld_t {p : List Int} (h : (sFault p).1 = 0) : bld p = sufOf p := by unfold bld; rw [if_pos h]
theorem bld_f {p : List Int} (h : (sFault p).1 ≠ 0) : bld p = [] := by unfold bld; rw [if_neg h]
theorem bothF_1 {p ord : List Int} (h : (sFault p).1 ≠ 0) : bothF p ord = sFault p := by unfold bothF; rw [if_pos h]
theorem bothF_2 {p ord : List Int} (h : (sFault p).1 = 0) (h2 : ord ≠ ints (sufOf p)) : bothF p ord = (5, -2) := by unfold bothF; rw [if_neg (by omega), if_neg h2]
theorem bothF_3 {p ord : List Int} (h : (sFault p).1 = 0) (h2 : ord = ints (sufOf p)) : bothF p ord = (0, 0) := by unfold bothF; rw [if_neg (by omega), if_pos h2]
theorem bothF_ok {p ord : List Int} (h : (bothF p ord).1 = 0) : (sFault p).1 = 0 ∧ ord = ints (sufOf p) := by
  by_cases h1 : (sFault p).1 = 0
  · refine ⟨h1, ?_⟩
    apply Decidable.byContradiction
    intro h2
    rw [bothF_2 h1 h2] at h; cases h
  · rw [bothF_1 h1] at h; exact absurd h h1
theorem ints_set (l : List Nat) (k x : Nat) : (ints l).set k (x : Int) = ints (l.set k x) := by
  show (l.map _).set k _ = (l.set k x).map _
  rw [List.map_set]
theorem rowI2_set (l : List Nat) (k x : Nat) : (rows intR (ints l)).set (k * 1 + 0) (iv (x : Nat)) = rows intR (ints (l.set k x)) := by rw [rowI_set, ints_set]

theorem Build_spec (v0 : Value) (p : List Int) : FnH Tryz.prog 31 #[v0] ([sl intR v0 p].map dat) (fun u H' => ∃ u0 : Value, u = .tuple #[u0, fv (sFault p)] ∧ u0.oneCell' = true ∧ H' = [row u0 3 1 (bld p).length (rows intR (ints (bld p)))]) := by
  refine FnH.body (args := [v0]) 14 Tryz.func31 rfl Tryz.ntmps31 rfl (fun c => ?_)
  refine St.seq ?_
  refine St.cast (H' := [dat (sl intR v0 p)]) rfl ?_
  refine St.wf v0 (fun hwf hlen => ?_)
  refine St.rg ?_
  refine St.ev _ (Ev.assign (Opd.mk rfl)) rfl ?_
  refine St.alloc zc30 rfl (fun b3 => ?_)
  refine St.nil ?_
  refine St.then_normal ?_
  refine St.seq ?_
  refine St.seq ?_
  refine St.rg ?_
  refine St.ev _ (Ev.move (Opd.mk rfl)) rfl ?_
  refine St.ev _ (Ev.call (check_spec v0 p) cb46 (Opds.cons (Opd.mk rfl) Opds.nil)) rfl ?_
  refine St.alloc zc30 rfl (fun b4 => ?_)
  refine St.storeA (Opd.mk rfl) (Opd.mk rfl) sz30 (by first | simp only [List.length_cons, List.length_nil] | rfl) rfl ?_
  refine St.nil ?_
  refine St.then_normal ?_
  refine St.seq ?_
  refine St.rg ?_
  refine St.ev _ (Ev.fldb0 (Opd.mk rfl) fo30_0) rfl ?_
  refine St.ev _ (Ev.ldb (Opd.mk rfl) Tryz.underlying3 trivial (by rfl)) rfl ?_
  refine St.ev _ (Ev.neq (Opd.mk rfl) (Opd.mk rfl)) rfl ?_
  refine St.nil ?_
  refine St.then_normal ?_
  refine St.cond _ rfl (fun h9 => ?_) (fun h9 => ?_)
  · skip
    try simp only [Bool.and_true, Bool.true_and, decide_eq_true_eq, decide_eq_false_iff_not, Bool.and_eq_true, Bool.or_eq_true, Bool.and_eq_false_iff, Bool.or_eq_false_iff, Bool.not_eq_true', Bool.not_eq_false', beq_iff_eq, beq_eq_false_iff_ne, Int.not_lt, Int.not_le] at h9
    refine St.seq ?_
    refine St.par [b3] mixed ?_
    refine SW.defer 0 (by repeat (first | refine NP.then ?_ | refine NP.inBlock ?_ | exact NP.body)) (by kernel_rfl) rfl (fun R => Ev.ldbA (Opd.mk rfl) Tryz.underlying30 trivial (by exact sz30)) (by kernel_rfl) rfl ?_
    refine SW.defer 1 (by repeat (first | refine NP.then ?_ | refine NP.inBlock ?_ | exact NP.body)) (by kernel_rfl) rfl (fun R => Ev.assign (Opd.mk rfl)) (by kernel_rfl) rfl ?_
    refine SW.turn1 (i := 2) (by kernel_rfl) rfl ?_
    refine St.storeA (Opd.mk rfl) (Opd.mk rfl) sz30 (by first | simp only [List.length_cons, List.length_nil] | rfl) rfl ?_
    refine St.nil ?_
    refine St.then_normal ?_
    refine SW.go ?_
    refine SW.done (by kernel_rfl) ?_
    refine St.then_normal ?_
    refine St.rett ?_
    refine St.then_ret ?_
    refine St.nilrow 3 1 ?_
    refine St.rets [_, _] [row (.slice none 0 0) 3 1 0 []] Tryz.results31 ⟨rfl, ⟨⟨_, _, _, _, rfl, InB.mem, .inl ⟨⟨_, Tryz.underlying30⟩, sz30, rfl⟩⟩, trivial⟩⟩ ?_ (fun _ hw => hw.sub)
    rw [bld_f h9]; exact ⟨_, rfl, rfl, rfl⟩
  · skip
    try simp only [Bool.and_true, Bool.true_and, decide_eq_true_eq, decide_eq_false_iff_not, Bool.and_eq_true, Bool.or_eq_true, Bool.and_eq_false_iff, Bool.or_eq_false_iff, Bool.not_eq_true', Bool.not_eq_false', beq_iff_eq, beq_eq_false_iff_ne, Int.not_lt, Int.not_le] at h9
    have hok := sFault_ok (p := p) (by omega)
    refine St.skip ?_
    refine St.then_normal ?_
    refine St.seq ?_
    refine St.rg ?_
    refine St.ev _ (Ev.move (Opd.mk rfl)) rfl ?_
    refine St.calld (build_spec v0 p hok.1) cb47 (Opds.cons (Opd.mk rfl) Opds.nil) rfl ?_
    rintro v12 _ ⟨l, hsuf, hone, rfl⟩
    refine St.app1 ?_
    refine St.ev _ (Ev.build (ps := []) (Opds.nil) (fun w => bld30_  w)) rfl ?_
    refine St.ev _ (Ev.assign (Opd.mk rfl)) rfl ?_
    refine St.storeA (Opd.mk rfl) (Opd.mk rfl) sz30 (by first | simp only [List.length_cons, List.length_nil] | rfl) rfl ?_
    refine St.nil ?_
    refine St.then_normal ?_
    refine St.rett ?_
    refine St.rets [_, _] [row v12 3 1 p.length (rows intR (ints l))] Tryz.results31 ⟨rfl, ⟨⟨_, _, _, _, rfl, InB.mem, .inl ⟨⟨_, Tryz.underlying30⟩, sz30, rfl⟩⟩, trivial⟩⟩ ?_ (fun _ hw => hw.sub)
    have e := sufOf_eq hsuf
    rw [bld_t (by omega), hok.2, ← e]
    exact ⟨_, rfl, hone, by rw [e, suf_len]⟩

theorem sameInts_spec (v0 v1 : Value) (a b : List Int) : FnV Tryz.prog 22 #[v0, v1] [sl intR v0 a, sl intR v1 b] (.bool (decide (a = b))) := by
  refine FnV.body2 (args := [v0, v1]) 26 Tryz.func22 rfl Tryz.ntmps22 rfl (fun c => ?_)
  refine St.seq ?_
  refine St.wf v0 (fun hwf0 hlen0 => ?_)
  refine St.wf v1 (fun hwf1 hlen1 => ?_)
  refine St.rg ?_
  refine St.ev _ (Ev.assign (Opd.mk rfl)) rfl ?_
  refine St.nil ?_
  refine St.then_normal ?_
  refine St.seq ?_
  refine St.seq ?_
  refine St.rg ?_
  refine St.ev _ (Ev.move (Opd.mk rfl)) rfl ?_
  refine St.ev _ (Ev.lensl (Opd.mk rfl) Tryz.underlying25) rfl ?_
  refine St.ev _ (Ev.move (Opd.mk rfl)) rfl ?_
  refine St.ev _ (Ev.lensl (Opd.mk rfl) Tryz.underlying25) rfl ?_
  refine St.ev _ (Ev.neq (Opd.mk rfl) (Opd.mk rfl)) rfl ?_
  refine St.nil ?_
  refine St.then_normal ?_
  refine St.cond _ rfl (fun h10 => ?_) (fun h10 => ?_)
  · skip
    try simp only [Bool.and_true, Bool.true_and, decide_eq_true_eq, decide_eq_false_iff_not, Bool.and_eq_true, Bool.or_eq_true, Bool.and_eq_false_iff, Bool.or_eq_false_iff, Bool.not_eq_true', Bool.not_eq_false', beq_iff_eq, beq_eq_false_iff_ne, Int.not_lt, Int.not_le] at h10
    refine St.seq ?_
    refine St.rg ?_
    refine St.ev _ (Ev.assign (Opd.mk rfl)) rfl ?_
    refine St.nil ?_
    refine St.then_normal ?_
    refine St.rett ?_
    refine St.then_ret ?_
    refine St.rets [_] [] Tryz.results22 ⟨rfl, trivial⟩ ?_ (fun _ hw => hw.sub)
    exact be (by rw [eq_comm, decide_eq_false_iff_not]; rintro rfl; omega)
  · skip
    try simp only [Bool.and_true, Bool.true_and, decide_eq_true_eq, decide_eq_false_iff_not, Bool.and_eq_true, Bool.or_eq_true, Bool.and_eq_false_iff, Bool.or_eq_false_iff, Bool.not_eq_true', Bool.not_eq_false', beq_iff_eq, beq_eq_false_iff_ne, Int.not_lt, Int.not_le] at h10
    refine St.skip ?_
    refine St.then_normal ?_
    refine St.seq ?_
    refine St.seq ?_
    refine St.rg ?_
    refine St.ev _ (Ev.assign (Opd.mk rfl)) rfl ?_
    refine St.nil ?_
    refine St.then_normal ?_
    refine St.block ?_
    refine St.loopS (ι := Nat) (fun k T => (5, iv k) :: T) (fun k => k ≤ a.length ∧ a.take k = b.take k) (fun k => a.length - k) 0 (Keep.cons 0 rfl (Keep.cons 1 rfl Keep.nil)) ⟨Nat.zero_le _, rfl⟩ (by repeat (first | exact Sub.nil | refine Sub.cons (by first | rfl | exact congrArg (fun z => some (iv z)) (by first | omega | (dsimp only; omega)) | exact congrArg (fun z => some (Value.bool z)) (by first | assumption | exact Eq.symm (by assumption))) ?_)) ?_
    intro k hphi
    obtain ⟨hk, hv⟩ := hphi
    refine St.seq ?_
    refine St.seq ?_
    refine St.rg ?_
    refine St.ev _ (Ev.move (Opd.mk rfl)) rfl ?_
    refine St.ev _ (Ev.move (Opd.mk rfl)) rfl ?_
    refine St.ev _ (Ev.lensl (Opd.mk rfl) Tryz.underlying25) rfl ?_
    refine St.ev _ (Ev.lss (Opd.mk rfl) (Opd.mk rfl)) rfl ?_
    refine St.nil ?_
    refine St.then_normal ?_
    refine St.cond _ rfl (fun h14 => ?_) (fun h14 => ?_)
    · skip
      try simp only [Bool.and_true, Bool.true_and, decide_eq_true_eq, decide_eq_false_iff_not, Bool.and_eq_true, Bool.or_eq_true, Bool.and_eq_false_iff, Bool.or_eq_false_iff, Bool.not_eq_true', Bool.not_eq_false', beq_iff_eq, beq_eq_false_iff_ne, Int.not_lt, Int.not_le] at h14
      refine St.skip ?_
      refine St.then_normal ?_
      refine St.seq ?_
      refine St.block ?_
      refine St.seq ?_
      refine St.rq mixed (by kernel_rfl) (Mm.drawn _ _) ?_
      refine Sq.ev _ (Ev.move (Opd.mk rfl)) rfl ?_
      refine Sq.ev _ (Ev.move (Opd.mk rfl)) rfl ?_
      refine Sq.ev _ (Ev.idxaddr  (Opd.mk rfl) (Opd.mk rfl) Tryz.underlying25 sz3 rfl (by omega)) rfl ?_
      refine Sq.ev _ (Ev.ld1 (Opd.mk rfl) (by first | assumption | exact some_getD 0 (by omega)) Tryz.underlying3 trivial rfl) rfl ?_
      refine Sq.ev _ (Ev.move (Opd.mk rfl)) rfl ?_
      refine Sq.ev _ (Ev.move (Opd.mk rfl)) rfl ?_
      refine Sq.ev _ (Ev.idxaddr  (Opd.mk rfl) (Opd.mk rfl) Tryz.underlying25 sz3 rfl (by omega)) rfl ?_
      refine Sq.ev _ (Ev.ld1 (Opd.mk rfl) (by first | assumption | exact some_getD 0 (by omega)) Tryz.underlying3 trivial rfl) rfl ?_
      refine Sq.ev _ (Ev.neq (Opd.mk rfl) (Opd.mk rfl)) rfl ?_
      refine Sq.nil ?_
      refine St.then_normal ?_
      refine St.cond _ rfl (fun h25 => ?_) (fun h25 => ?_)
      · skip
        try simp only [Bool.and_true, Bool.true_and, decide_eq_true_eq, decide_eq_false_iff_not, Bool.and_eq_true, Bool.or_eq_true, Bool.and_eq_false_iff, Bool.or_eq_false_iff, Bool.not_eq_true', Bool.not_eq_false', beq_iff_eq, beq_eq_false_iff_ne, Int.not_lt, Int.not_le] at h25
        refine St.seq ?_
        refine St.rg ?_
        refine St.ev _ (Ev.assign (Opd.mk rfl)) rfl ?_
        refine St.nil ?_
        refine St.then_normal ?_
        refine St.rett ?_
        refine St.in_ret ?_
        refine St.then_ret ?_
        refine St.then_ret ?_
        refine St.in_ret ?_
        refine St.then_ret ?_
        refine St.rets [_] [] Tryz.results22 ⟨rfl, trivial⟩ ?_ (fun _ hw => hw.sub)
        exact be (by rw [eq_comm, decide_eq_false_iff_not]; rintro rfl; exact h25 rfl)
      · skip
        try simp only [Bool.and_true, Bool.true_and, decide_eq_true_eq, decide_eq_false_iff_not, Bool.and_eq_true, Bool.or_eq_true, Bool.and_eq_false_iff, Bool.or_eq_false_iff, Bool.not_eq_true', Bool.not_eq_false', beq_iff_eq, beq_eq_false_iff_ne, Int.not_lt, Int.not_le] at h25
        refine St.skip ?_
        refine St.in_normal ?_
        refine St.then_normal ?_
        refine St.rg ?_
        refine St.ev _ (Ev.move (Opd.mk rfl)) rfl ?_
        refine St.ev _ (Ev.add (Opd.mk rfl) (Opd.mk rfl) (by omega)) rfl ?_
        refine St.ev _ (Ev.assign (Opd.mk rfl)) rfl ?_
        refine St.nil ?_
        refine St.then_normal ?_
        refine St.againS (k + 1) ⟨by omega, by rw [take_of_some (some_getD 0 (show k < a.length by omega)), take_of_some (some_getD 0 (show k < b.length by omega)), hv, show a.getD k 0 = b.getD k 0 by omega]⟩ (by first | omega | (dsimp only; omega)) (by repeat (first | exact Sub.nil | refine Sub.cons (by first | rfl | exact congrArg (fun z => some (iv z)) (by first | omega | (dsimp only; omega)) | exact congrArg (fun z => some (Value.bool z)) (by first | assumption | exact Eq.symm (by assumption))) ?_)) (fun _ hw => hw.sub)
    · skip
      try simp only [Bool.and_true, Bool.true_and, decide_eq_true_eq, decide_eq_false_iff_not, Bool.and_eq_true, Bool.or_eq_true, Bool.and_eq_false_iff, Bool.or_eq_false_iff, Bool.not_eq_true', Bool.not_eq_false', beq_iff_eq, beq_eq_false_iff_ne, Int.not_lt, Int.not_le] at h14
      refine St.exit ?_
      refine St.then_exit ?_
      refine St.then_exit ?_
      refine St.in_hit ?_
      refine St.then_normal ?_
      refine St.seq ?_
      refine St.rg ?_
      refine St.ev _ (Ev.assign (Opd.mk rfl)) rfl ?_
      refine St.nil ?_
      refine St.then_normal ?_
      refine St.rett ?_
      refine St.rets [_] [] Tryz.results22 ⟨rfl, trivial⟩ ?_ (fun _ hw => hw.sub)
      exact be (by rw [eq_comm, decide_eq_true_eq]; rw [List.take_of_length_le (by omega), List.take_of_length_le (by omega)] at hv; exact hv)

theorem Equal_spec (v0 v1 : Value) (a b : List Int) : FnV Tryz.prog 95 #[v0, v1] [sl intR v0 a, sl intR v1 b] (.bool (decide (a = b))) := by
  refine FnV.body2 (args := [v0, v1]) 26 Tryz.func95 rfl Tryz.ntmps95 rfl (fun c => ?_)
  refine St.seq ?_
  refine St.wf v0 (fun hwf0 hlen0 => ?_)
  refine St.wf v1 (fun hwf1 hlen1 => ?_)
  refine St.rg ?_
  refine St.ev _ (Ev.assign (Opd.mk rfl)) rfl ?_
  refine St.nil ?_
  refine St.then_normal ?_
  refine St.seq ?_
  refine St.seq ?_
  refine St.rg ?_
  refine St.ev _ (Ev.move (Opd.mk rfl)) rfl ?_
  refine St.ev _ (Ev.lensl (Opd.mk rfl) Tryz.underlying25) rfl ?_
  refine St.ev _ (Ev.move (Opd.mk rfl)) rfl ?_
  refine St.ev _ (Ev.lensl (Opd.mk rfl) Tryz.underlying25) rfl ?_
  refine St.ev _ (Ev.neq (Opd.mk rfl) (Opd.mk rfl)) rfl ?_
  refine St.nil ?_
  refine St.then_normal ?_
  refine St.cond _ rfl (fun h10 => ?_) (fun h10 => ?_)
  · skip
    try simp only [Bool.and_true, Bool.true_and, decide_eq_true_eq, decide_eq_false_iff_not, Bool.and_eq_true, Bool.or_eq_true, Bool.and_eq_false_iff, Bool.or_eq_false_iff, Bool.not_eq_true', Bool.not_eq_false', beq_iff_eq, beq_eq_false_iff_ne, Int.not_lt, Int.not_le] at h10
    refine St.seq ?_
    refine St.rg ?_
    refine St.ev _ (Ev.assign (Opd.mk rfl)) rfl ?_
    refine St.nil ?_
    refine St.then_normal ?_
    refine St.rett ?_
    refine St.then_ret ?_
    refine St.rets [_] [] Tryz.results95 ⟨rfl, trivial⟩ ?_ (fun _ hw => hw.sub)
    exact be (by rw [eq_comm, decide_eq_false_iff_not]; rintro rfl; omega)
  · skip
    try simp only [Bool.and_true, Bool.true_and, decide_eq_true_eq, decide_eq_false_iff_not, Bool.and_eq_true, Bool.or_eq_true, Bool.and_eq_false_iff, Bool.or_eq_false_iff, Bool.not_eq_true', Bool.not_eq_false', beq_iff_eq, beq_eq_false_iff_ne, Int.not_lt, Int.not_le] at h10
    refine St.skip ?_
    refine St.then_normal ?_
    refine St.seq ?_
    refine St.seq ?_
    refine St.rg ?_
    refine St.ev _ (Ev.move (Opd.mk rfl)) rfl ?_
    refine St.ev _ (Ev.lensl (Opd.mk rfl) Tryz.underlying25) rfl ?_
    refine St.ev _ (Ev.move (Opd.mk rfl)) rfl ?_
    refine St.nil ?_
    refine St.then_normal ?_
    refine St.block ?_
    refine St.loopS (ι := Nat) (fun k T => (13, iv k) :: T) (fun k => k ≤ a.length ∧ a.take k = b.take k) (fun k => a.length - k) 0 (Keep.cons 0 rfl (Keep.cons 1 rfl (Keep.cons 12 rfl Keep.nil))) ⟨Nat.zero_le _, rfl⟩ (by repeat (first | exact Sub.nil | refine Sub.cons (by first | rfl | exact congrArg (fun z => some (iv z)) (by first | omega | (dsimp only; omega)) | exact congrArg (fun z => some (Value.bool z)) (by first | assumption | exact Eq.symm (by assumption))) ?_)) ?_
    intro k hphi
    obtain ⟨hk, hv⟩ := hphi
    refine St.seq ?_
    refine St.rg ?_
    refine St.ev _ (Ev.lss (Opd.mk rfl) (Opd.mk rfl)) rfl ?_
    refine St.nil ?_
    refine St.then_normal ?_
    refine St.seq ?_
    refine St.cond _ rfl (fun h14 => ?_) (fun h14 => ?_)
    · skip
      try simp only [Bool.and_true, Bool.true_and, decide_eq_true_eq, decide_eq_false_iff_not, Bool.and_eq_true, Bool.or_eq_true, Bool.and_eq_false_iff, Bool.or_eq_false_iff, Bool.not_eq_true', Bool.not_eq_false', beq_iff_eq, beq_eq_false_iff_ne, Int.not_lt, Int.not_le] at h14
      refine St.skip ?_
      refine St.then_normal ?_
      refine St.seq ?_
      refine St.block ?_
      refine St.seq ?_
      refine St.rg ?_
      refine St.ev _ (Ev.move (Opd.mk rfl)) rfl ?_
      refine St.ev _ (Ev.assign (Opd.mk rfl)) rfl ?_
      refine St.nil ?_
      refine St.then_normal ?_
      refine St.seq ?_
      refine St.rq mixed (by kernel_rfl) (Mm.drawn _ _) ?_
      refine Sq.ev _ (Ev.move (Opd.mk rfl)) rfl ?_
      refine Sq.ev _ (Ev.move (Opd.mk rfl)) rfl ?_
      refine Sq.ev _ (Ev.idxaddr  (Opd.mk rfl) (Opd.mk rfl) Tryz.underlying25 sz3 rfl (by omega)) rfl ?_
      refine Sq.ev _ (Ev.ld1 (Opd.mk rfl) (by first | assumption | exact some_getD 0 (by omega)) Tryz.underlying3 trivial rfl) rfl ?_
      refine Sq.ev _ (Ev.move (Opd.mk rfl)) rfl ?_
      refine Sq.ev _ (Ev.move (Opd.mk rfl)) rfl ?_
      refine Sq.ev _ (Ev.idxaddr  (Opd.mk rfl) (Opd.mk rfl) Tryz.underlying25 sz3 rfl (by omega)) rfl ?_
      refine Sq.ev _ (Ev.ld1 (Opd.mk rfl) (by first | assumption | exact some_getD 0 (by omega)) Tryz.underlying3 trivial rfl) rfl ?_
      refine Sq.ev _ (Ev.neq (Opd.mk rfl) (Opd.mk rfl)) rfl ?_
      refine Sq.nil ?_
      refine St.then_normal ?_
      refine St.cond _ rfl (fun h24 => ?_) (fun h24 => ?_)
      · skip
        try simp only [Bool.and_true, Bool.true_and, decide_eq_true_eq, decide_eq_false_iff_not, Bool.and_eq_true, Bool.or_eq_true, Bool.and_eq_false_iff, Bool.or_eq_false_iff, Bool.not_eq_true', Bool.not_eq_false', beq_iff_eq, beq_eq_false_iff_ne, Int.not_lt, Int.not_le] at h24
        refine St.seq ?_
        refine St.rg ?_
        refine St.ev _ (Ev.assign (Opd.mk rfl)) rfl ?_
        refine St.nil ?_
        refine St.then_normal ?_
        refine St.rett ?_
        refine St.in_ret ?_
        refine St.then_ret ?_
        refine St.then_ret ?_
        refine St.in_ret ?_
        refine St.then_ret ?_
        refine St.rets [_] [] Tryz.results95 ⟨rfl, trivial⟩ ?_ (fun _ hw => hw.sub)
        exact be (by rw [eq_comm, decide_eq_false_iff_not]; rintro rfl; exact h24 rfl)
      · skip
        try simp only [Bool.and_true, Bool.true_and, decide_eq_true_eq, decide_eq_false_iff_not, Bool.and_eq_true, Bool.or_eq_true, Bool.and_eq_false_iff, Bool.or_eq_false_iff, Bool.not_eq_true', Bool.not_eq_false', beq_iff_eq, beq_eq_false_iff_ne, Int.not_lt, Int.not_le] at h24
        refine St.skip ?_
        refine St.in_normal ?_
        refine St.then_normal ?_
        refine St.rg ?_
        refine St.ev _ (Ev.add (Opd.mk rfl) (Opd.mk rfl) (by omega)) rfl ?_
        refine St.ev _ (Ev.move (Opd.mk rfl)) rfl ?_
        refine St.nil ?_
        refine St.then_normal ?_
        refine St.againS (k + 1) ⟨by omega, by rw [take_of_some (some_getD 0 (show k < a.length by omega)), take_of_some (some_getD 0 (show k < b.length by omega)), hv, show a.getD k 0 = b.getD k 0 by omega]⟩ (by first | omega | (dsimp only; omega)) (by repeat (first | exact Sub.nil | refine Sub.cons (by first | rfl | exact congrArg (fun z => some (iv z)) (by first | omega | (dsimp only; omega)) | exact congrArg (fun z => some (Value.bool z)) (by first | assumption | exact Eq.symm (by assumption))) ?_)) (fun _ hw => hw.sub)
    · skip
      try simp only [Bool.and_true, Bool.true_and, decide_eq_true_eq, decide_eq_false_iff_not, Bool.and_eq_true, Bool.or_eq_true, Bool.and_eq_false_iff, Bool.or_eq_false_iff, Bool.not_eq_true', Bool.not_eq_false', beq_iff_eq, beq_eq_false_iff_ne, Int.not_lt, Int.not_le] at h14
      refine St.exit ?_
      refine St.then_exit ?_
      refine St.then_exit ?_
      refine St.in_hit ?_
      refine St.then_normal ?_
      refine St.seq ?_
      refine St.rg ?_
      refine St.ev _ (Ev.assign (Opd.mk rfl)) rfl ?_
      refine St.nil ?_
      refine St.then_normal ?_
      refine St.rett ?_
      refine St.rets [_] [] Tryz.results95 ⟨rfl, trivial⟩ ?_ (fun _ hw => hw.sub)
      exact be (by rw [eq_comm, decide_eq_true_eq]; rw [List.take_of_length_le (by omega), List.take_of_length_le (by omega)] at hv; exact hv)

theorem both_spec (v0 v1 : Value) (p ord : List Int) : FnV Tryz.prog 76 #[v0, v1] [sl intR v0 p, sl intR v1 ord] (fv (bothF p ord)) := by
  refine FnV.body2 (args := [v0, v1]) 19 Tryz.func76 rfl Tryz.ntmps76 rfl (fun c => ?_)
  refine St.seq ?_
  refine St.rg ?_
  refine St.alloc zc30 rfl (fun b4 => ?_)
  refine St.nil ?_
  refine St.then_normal ?_
  refine St.seq ?_
  refine St.seq ?_
  refine St.rg ?_
  refine St.ev _ (Ev.move (Opd.mk rfl)) rfl ?_
  refine St.ev _ (Ev.call (check_spec v0 p) cb46 (Opds.cons (Opd.mk rfl) Opds.nil)) rfl ?_
  refine St.alloc zc30 rfl (fun b5 => ?_)
  refine St.storeA (Opd.mk rfl) (Opd.mk rfl) sz30 (by first | simp only [List.length_cons, List.length_nil] | rfl) rfl ?_
  refine St.nil ?_
  refine St.then_normal ?_
  refine St.seq ?_
  refine St.rg ?_
  refine St.ev _ (Ev.fldb0 (Opd.mk rfl) fo30_0) rfl ?_
  refine St.ev _ (Ev.ldb (Opd.mk rfl) Tryz.underlying3 trivial (by rfl)) rfl ?_
  refine St.ev _ (Ev.neq (Opd.mk rfl) (Opd.mk rfl)) rfl ?_
  refine St.nil ?_
  refine St.then_normal ?_
  refine St.cond _ rfl (fun h10 => ?_) (fun h10 => ?_)
  · skip
    try simp only [Bool.and_true, Bool.true_and, decide_eq_true_eq, decide_eq_false_iff_not, Bool.and_eq_true, Bool.or_eq_true, Bool.and_eq_false_iff, Bool.or_eq_false_iff, Bool.not_eq_true', Bool.not_eq_false', beq_iff_eq, beq_eq_false_iff_ne, Int.not_lt, Int.not_le] at h10
    refine St.seq ?_
    refine St.rg ?_
    refine St.ev _ (Ev.ldbA (Opd.mk rfl) Tryz.underlying30 trivial (by exact sz30)) rfl ?_
    refine St.storeA (Opd.mk rfl) (Opd.mk rfl) sz30 (by first | simp only [List.length_cons, List.length_nil] | rfl) rfl ?_
    refine St.nil ?_
    refine St.then_normal ?_
    refine St.rett ?_
    refine St.then_ret ?_
    refine St.rets [_] [] Tryz.results76 ⟨⟨_, _, _, _, rfl, InB.mem, .inl ⟨⟨_, Tryz.underlying30⟩, sz30, rfl⟩⟩, trivial⟩ ?_ (fun _ hw => hw.sub)
    exact fe (bothF_1 h10)
  · skip
    try simp only [Bool.and_true, Bool.true_and, decide_eq_true_eq, decide_eq_false_iff_not, Bool.and_eq_true, Bool.or_eq_true, Bool.and_eq_false_iff, Bool.or_eq_false_iff, Bool.not_eq_true', Bool.not_eq_false', beq_iff_eq, beq_eq_false_iff_ne, Int.not_lt, Int.not_le] at h10
    have hok := sFault_ok (p := p) (by omega)
    refine St.skip ?_
    refine St.then_normal ?_
    refine St.seq ?_
    refine St.seq ?_
    refine St.rg ?_
    refine St.ev _ (Ev.move (Opd.mk rfl)) rfl ?_
    refine St.ev _ (Ev.move (Opd.mk rfl)) rfl ?_
    refine St.calld (build_spec v0 p hok.1) cb47 (Opds.cons (Opd.mk rfl) Opds.nil) rfl ?_
    rintro v14 _ ⟨l, hsuf, hone, rfl⟩
    refine St.app1 ?_
    have e := sufOf_eq hsuf
    have hln := suf_len p
    refine St.publish v14 intR (ints l) rfl (by rw [ints_length, e, hln]) (by rw [e]; exact suf_wf (by omega)) ?_
    rw [e]
    refine St.ev _ (Ev.call (Equal_spec v1 v14 ord (ints (sufOf p))) cb95 (Opds.cons (Opd.mk rfl) (Opds.cons (Opd.mk rfl) Opds.nil))) rfl ?_
    refine St.ev _ (Ev.not (Opd.mk rfl)) rfl ?_
    refine St.nil ?_
    refine St.then_normal ?_
    refine St.cond _ rfl (fun h16 => ?_) (fun h16 => ?_)
    · skip
      try simp only [Bool.and_true, Bool.true_and, decide_eq_true_eq, decide_eq_false_iff_not, Bool.and_eq_true, Bool.or_eq_true, Bool.and_eq_false_iff, Bool.or_eq_false_iff, Bool.not_eq_true', Bool.not_eq_false', beq_iff_eq, beq_eq_false_iff_ne, Int.not_lt, Int.not_le] at h16
      refine St.seq ?_
      refine St.rg ?_
      refine St.ev _ (Ev.build (ps := [(0, (Operand.const (Value.int IntKind.i64 5))), (1, (Operand.const (Value.int IntKind.i64 (-2))))]) (Opds.cons (Opd.mk rfl) (Opds.cons (Opd.mk rfl) Opds.nil)) (fun w => bld30_0_1 rfl rfl w)) rfl ?_
      refine St.storeA (Opd.mk rfl) (Opd.mk rfl) sz30 (by first | simp only [List.length_cons, List.length_nil] | rfl) rfl ?_
      refine St.nil ?_
      refine St.then_normal ?_
      refine St.rett ?_
      refine St.then_ret ?_
      refine St.rets [_] [] Tryz.results76 ⟨⟨_, _, _, _, rfl, InB.mem, .inl ⟨⟨_, Tryz.underlying30⟩, sz30, rfl⟩⟩, trivial⟩ ?_ (fun _ hw => hw.sub)
      exact fe (bothF_2 (by omega) h16)
    · skip
      try simp only [Bool.and_true, Bool.true_and, decide_eq_true_eq, decide_eq_false_iff_not, Bool.and_eq_true, Bool.or_eq_true, Bool.and_eq_false_iff, Bool.or_eq_false_iff, Bool.not_eq_true', Bool.not_eq_false', beq_iff_eq, beq_eq_false_iff_ne, Int.not_lt, Int.not_le] at h16
      refine St.skip ?_
      refine St.then_normal ?_
      refine St.seq ?_
      refine St.rg ?_
      refine St.ev _ (Ev.build (ps := []) (Opds.nil) (fun w => bld30_  w)) rfl ?_
      refine St.storeA (Opd.mk rfl) (Opd.mk rfl) sz30 (by first | simp only [List.length_cons, List.length_nil] | rfl) rfl ?_
      refine St.nil ?_
      refine St.then_normal ?_
      refine St.rett ?_
      refine St.rets [_] [] Tryz.results76 ⟨⟨_, _, _, _, rfl, InB.mem, .inl ⟨⟨_, Tryz.underlying30⟩, sz30, rfl⟩⟩, trivial⟩ ?_ (fun _ hw => hw.sub)
      exact fe (bothF_3 (by omega) h16)

theorem CompareL_spec (v0 v1 : Value) (a b : List Int) : FnV Tryz.prog 80 #[v0, v1] [sl intR v0 a, sl intR v1 b] (iv (lcmp a b)) := by
  refine FnV.body2 (args := [v0, v1]) 36 Tryz.func80 rfl Tryz.ntmps80 rfl (fun c => ?_)
  refine St.seq ?_
  refine St.wf v0 (fun hwf0 hlen0 => ?_)
  refine St.wf v1 (fun hwf1 hlen1 => ?_)
  refine St.rg ?_
  refine St.ev _ (Ev.assign (Opd.mk rfl)) rfl ?_
  refine St.nil ?_
  refine St.then_normal ?_
  refine St.seq ?_
  refine St.seq ?_
  refine St.rg ?_
  refine St.ev _ (Ev.move (Opd.mk rfl)) rfl ?_
  refine St.ev _ (Ev.lensl (Opd.mk rfl) Tryz.underlying25) rfl ?_
  refine St.ev _ (Ev.move (Opd.mk rfl)) rfl ?_
  refine St.nil ?_
  refine St.then_normal ?_
  refine St.block ?_
  refine St.loopS (ι := Nat) (fun k T => (11, iv k) :: T) (fun k => k ≤ a.length ∧ k ≤ b.length ∧ lcmp a b = lcmp (a.drop k) (b.drop k)) (fun k => a.length - k) 0 (Keep.cons 0 rfl (Keep.cons 1 rfl (Keep.cons 9 rfl (Keep.cons 10 rfl Keep.nil)))) ⟨Nat.zero_le _, Nat.zero_le _, rfl⟩ (by repeat (first | exact Sub.nil | refine Sub.cons (by first | rfl | exact congrArg (fun z => some (iv z)) (by first | omega | (dsimp only; omega)) | exact congrArg (fun z => some (Value.bool z)) (by first | assumption | exact Eq.symm (by assumption))) ?_)) ?_
  intro k hphi
  obtain ⟨hk, hk2, hv⟩ := hphi
  refine St.seq ?_
  refine St.rg ?_
  refine St.ev _ (Ev.lss (Opd.mk rfl) (Opd.mk rfl)) rfl ?_
  refine St.nil ?_
  refine St.then_normal ?_
  refine St.seq ?_
  refine St.cond _ rfl (fun h12 => ?_) (fun h12 => ?_)
  · skip
    try simp only [Bool.and_true, Bool.true_and, decide_eq_true_eq, decide_eq_false_iff_not, Bool.and_eq_true, Bool.or_eq_true, Bool.and_eq_false_iff, Bool.or_eq_false_iff, Bool.not_eq_true', Bool.not_eq_false', beq_iff_eq, beq_eq_false_iff_ne, Int.not_lt, Int.not_le] at h12
    refine St.skip ?_
    refine St.then_normal ?_
    refine St.seq ?_
    refine St.block ?_
    refine St.seq ?_
    refine St.rg ?_
    refine St.ev _ (Ev.move (Opd.mk rfl)) rfl ?_
    refine St.ev _ (Ev.idxaddr (k := k) (Opd.mk rfl) (Opd.mk rfl) Tryz.underlying25 sz3 (by omega) (by omega)) rfl ?_
    refine St.ev _ (Ev.ld1 (Opd.mk rfl) (some_getD 0 (by omega)) Tryz.underlying3 trivial rfl) rfl ?_
    refine St.ev _ (Ev.assign (Opd.mk rfl)) rfl ?_
    refine St.ev _ (Ev.assign (Opd.mk rfl)) rfl ?_
    refine St.nil ?_
    refine St.then_normal ?_
    refine St.seq ?_
    refine St.seq ?_
    refine St.rg ?_
    refine St.ev _ (Ev.move (Opd.mk rfl)) rfl ?_
    refine St.ev _ (Ev.move (Opd.mk rfl)) rfl ?_
    refine St.ev _ (Ev.lensl (Opd.mk rfl) Tryz.underlying25) rfl ?_
    refine St.ev _ (Ev.geq (Opd.mk rfl) (Opd.mk rfl)) rfl ?_
    refine St.nil ?_
    refine St.then_normal ?_
    refine St.cond _ rfl (fun h19 => ?_) (fun h19 => ?_)
    · skip
      try simp only [Bool.and_true, Bool.true_and, decide_eq_true_eq, decide_eq_false_iff_not, Bool.and_eq_true, Bool.or_eq_true, Bool.and_eq_false_iff, Bool.or_eq_false_iff, Bool.not_eq_true', Bool.not_eq_false', beq_iff_eq, beq_eq_false_iff_ne, Int.not_lt, Int.not_le] at h19
      refine St.seq ?_
      refine St.rg ?_
      refine St.ev _ (Ev.assign (Opd.mk rfl)) rfl ?_
      refine St.nil ?_
      refine St.then_normal ?_
      refine St.rett ?_
      refine St.then_ret ?_
      refine St.in_ret ?_
      refine St.then_ret ?_
      refine St.then_ret ?_
      refine St.in_ret ?_
      refine St.then_ret ?_
      refine St.rets [_] [] Tryz.results80 ⟨rfl, trivial⟩ ?_ (fun _ hw => hw.sub)
      exact ie (by rw [hv, lcmp_end1 (by omega) (by omega)])
    · skip
      try simp only [Bool.and_true, Bool.true_and, decide_eq_true_eq, decide_eq_false_iff_not, Bool.and_eq_true, Bool.or_eq_true, Bool.and_eq_false_iff, Bool.or_eq_false_iff, Bool.not_eq_true', Bool.not_eq_false', beq_iff_eq, beq_eq_false_iff_ne, Int.not_lt, Int.not_le] at h19
      refine St.skip ?_
      refine St.then_normal ?_
      refine St.seq ?_
      refine St.rg ?_
      refine St.ev _ (Ev.move (Opd.mk rfl)) rfl ?_
      refine St.ev _ (Ev.move (Opd.mk rfl)) rfl ?_
      refine St.ev _ (Ev.idxaddr (k := k) (Opd.mk rfl) (Opd.mk rfl) Tryz.underlying25 sz3 (by omega) (by omega)) rfl ?_
      refine St.ev _ (Ev.ld1 (Opd.mk rfl) (some_getD 0 (by omega)) Tryz.underlying3 trivial rfl) rfl ?_
      refine St.ev _ (Ev.assign (Opd.mk rfl)) rfl ?_
      refine St.nil ?_
      refine St.then_normal ?_
      refine St.seq ?_
      refine St.rg ?_
      refine St.ev _ (Ev.move (Opd.mk rfl)) rfl ?_
      refine St.ev _ (Ev.move (Opd.mk rfl)) rfl ?_
      refine St.ev _ (Ev.call (Compare_spec _ _) cb41 (Opds.cons (Opd.mk rfl) (Opds.cons (Opd.mk rfl) Opds.nil))) rfl ?_
      refine St.ev _ (Ev.assign (Opd.mk rfl)) rfl ?_
      refine St.nil ?_
      refine St.then_normal ?_
      refine St.seq ?_
      refine St.rg ?_
      refine St.ev _ (Ev.move (Opd.mk rfl)) rfl ?_
      refine St.ev _ (Ev.neq (Opd.mk rfl) (Opd.mk rfl)) rfl ?_
      refine St.nil ?_
      refine St.then_normal ?_
      refine St.cond _ rfl (fun h28 => ?_) (fun h28 => ?_)
      · skip
        try simp only [Bool.and_true, Bool.true_and, decide_eq_true_eq, decide_eq_false_iff_not, Bool.and_eq_true, Bool.or_eq_true, Bool.and_eq_false_iff, Bool.or_eq_false_iff, Bool.not_eq_true', Bool.not_eq_false', beq_iff_eq, beq_eq_false_iff_ne, Int.not_lt, Int.not_le] at h28
        refine St.seq ?_
        refine St.rg ?_
        refine St.ev _ (Ev.move (Opd.mk rfl)) rfl ?_
        refine St.ev _ (Ev.assign (Opd.mk rfl)) rfl ?_
        refine St.nil ?_
        refine St.then_normal ?_
        refine St.rett ?_
        refine St.in_ret ?_
        refine St.then_ret ?_
        refine St.then_ret ?_
        refine St.in_ret ?_
        refine St.then_ret ?_
        refine St.rets [_] [] Tryz.results80 ⟨rfl, trivial⟩ ?_ (fun _ hw => hw.sub)
        exact ie (by rw [hv, lcmp_drop (by omega) (by omega), if_pos h28])
      · skip
        try simp only [Bool.and_true, Bool.true_and, decide_eq_true_eq, decide_eq_false_iff_not, Bool.and_eq_true, Bool.or_eq_true, Bool.and_eq_false_iff, Bool.or_eq_false_iff, Bool.not_eq_true', Bool.not_eq_false', beq_iff_eq, beq_eq_false_iff_ne, Int.not_lt, Int.not_le] at h28
        refine St.skip ?_
        refine St.in_normal ?_
        refine St.then_normal ?_
        refine St.rg ?_
        refine St.ev _ (Ev.add (Opd.mk rfl) (Opd.mk rfl) (by omega)) rfl ?_
        refine St.ev _ (Ev.move (Opd.mk rfl)) rfl ?_
        refine St.nil ?_
        refine St.then_normal ?_
        refine St.againS (k + 1) ⟨by omega, by omega, by rw [hv, lcmp_drop (by omega) (by omega), if_neg (by omega)]⟩ (by first | omega | (dsimp only; omega)) (by repeat (first | exact Sub.nil | refine Sub.cons (by first | rfl | exact congrArg (fun z => some (iv z)) (by first | omega | (dsimp only; omega)) | exact congrArg (fun z => some (Value.bool z)) (by first | assumption | exact Eq.symm (by assumption))) ?_)) (fun _ hw => hw.sub)
  · skip
    try simp only [Bool.and_true, Bool.true_and, decide_eq_true_eq, decide_eq_false_iff_not, Bool.and_eq_true, Bool.or_eq_true, Bool.and_eq_false_iff, Bool.or_eq_false_iff, Bool.not_eq_true', Bool.not_eq_false', beq_iff_eq, beq_eq_false_iff_ne, Int.not_lt, Int.not_le] at h12
    refine St.exit ?_
    refine St.then_exit ?_
    refine St.then_exit ?_
    refine St.in_hit ?_
    refine St.then_normal ?_
    refine St.seq ?_
    refine St.seq ?_
    refine St.rg ?_
    refine St.ev _ (Ev.move (Opd.mk rfl)) rfl ?_
    refine St.ev _ (Ev.lensl (Opd.mk rfl) Tryz.underlying25) rfl ?_
    refine St.ev _ (Ev.move (Opd.mk rfl)) rfl ?_
    refine St.ev _ (Ev.lensl (Opd.mk rfl) Tryz.underlying25) rfl ?_
    refine St.ev _ (Ev.lss (Opd.mk rfl) (Opd.mk rfl)) rfl ?_
    refine St.nil ?_
    refine St.then_normal ?_
    refine St.cond _ rfl (fun h35 => ?_) (fun h35 => ?_)
    · skip
      try simp only [Bool.and_true, Bool.true_and, decide_eq_true_eq, decide_eq_false_iff_not, Bool.and_eq_true, Bool.or_eq_true, Bool.and_eq_false_iff, Bool.or_eq_false_iff, Bool.not_eq_true', Bool.not_eq_false', beq_iff_eq, beq_eq_false_iff_ne, Int.not_lt, Int.not_le] at h35
      refine St.seq ?_
      refine St.rg ?_
      refine St.ev _ (Ev.assign (Opd.mk rfl)) rfl ?_
      refine St.nil ?_
      refine St.then_normal ?_
      refine St.rett ?_
      refine St.then_ret ?_
      refine St.rets [_] [] Tryz.results80 ⟨rfl, trivial⟩ ?_ (fun _ hw => hw.sub)
      exact ie (by rw [hv, lcmp_end2 (by omega) (by omega)])
    · skip
      try simp only [Bool.and_true, Bool.true_and, decide_eq_true_eq, decide_eq_false_iff_not, Bool.and_eq_true, Bool.or_eq_true, Bool.and_eq_false_iff, Bool.or_eq_false_iff, Bool.not_eq_true', Bool.not_eq_false', beq_iff_eq, beq_eq_false_iff_ne, Int.not_lt, Int.not_le] at h35
      refine St.skip ?_
      refine St.then_normal ?_
      refine St.seq ?_
      refine St.rg ?_
      refine St.ev _ (Ev.assign (Opd.mk rfl)) rfl ?_
      refine St.nil ?_
      refine St.then_normal ?_
      refine St.rett ?_
      refine St.rets [_] [] Tryz.results80 ⟨rfl, trivial⟩ ?_ (fun _ hw => hw.sub)
      exact ie (by rw [hv, lcmp_end0 (by omega) (by omega)])

theorem Search_spec (n : Nat) (hn : n ≤ 4000) (q : Nat → Bool) (hq : ∀ a b, a ≤ b → b < n → q a = true → q b = true) (g : FuncId) (hcb : Callable Tryz.prog g) (caps : List Value) (D : Dat) (hcl : ∀ k, k < n → FnV Tryz.prog g ([iv k] ++ caps).toArray [D] (.bool (q k))) :
    FnV Tryz.prog 78 #[iv n, .func (.func g) #[] caps.toArray] [D] (iv ((List.range n).countP (fun k => !q k) : Nat)) := by
  refine FnV.body1 (args := [iv n, .func (.func g) #[] caps.toArray]) 26 Tryz.func78 rfl Tryz.ntmps78 rfl (fun c => ?_)
  refine St.seq ?_
  refine St.rg ?_
  refine St.ev _ (Ev.assign (Opd.mk rfl)) rfl ?_
  refine St.nil ?_
  refine St.then_normal ?_
  refine St.seq ?_
  refine St.rg ?_
  refine St.ev _ (Ev.move (Opd.mk rfl)) rfl ?_
  refine St.ev _ (Ev.assign (Opd.mk rfl)) rfl ?_
  refine St.ev _ (Ev.assign (Opd.mk rfl)) rfl ?_
  refine St.nil ?_
  refine St.then_normal ?_
  refine St.seq ?_
  refine St.block ?_
  refine St.loopS (ι := Nat × Nat) (fun x T => (5, iv x.1) :: (6, iv x.2) :: T) (fun x => x.1 ≤ x.2 ∧ x.2 ≤ n ∧ (∀ k, k < x.1 → q k = false) ∧ (∀ k, x.2 ≤ k → k < n → q k = true)) (fun x => x.2 - x.1) (0, n) (Keep.cons 1 rfl (Keep.cons 4 rfl Keep.nil)) ⟨Nat.zero_le _, Nat.le_refl _, fun k hk => absurd hk (Nat.not_lt_zero k), fun k h1 h2 => by omega⟩ (by repeat (first | exact Sub.nil | refine Sub.cons (by first | rfl | exact congrArg (fun z => some (iv z)) (by first | omega | (dsimp only; omega)) | exact congrArg (fun z => some (Value.bool z)) (by first | assumption | exact Eq.symm (by assumption))) ?_)) ?_
  intro x hphi
  obtain ⟨hk1, hk2, hv1, hv2⟩ := hphi
  refine St.seq ?_
  refine St.seq ?_
  refine St.rg ?_
  refine St.ev _ (Ev.move (Opd.mk rfl)) rfl ?_
  refine St.ev _ (Ev.move (Opd.mk rfl)) rfl ?_
  refine St.ev _ (Ev.lss (Opd.mk rfl) (Opd.mk rfl)) rfl ?_
  refine St.nil ?_
  refine St.then_normal ?_
  refine St.cond _ rfl (fun h11 => ?_) (fun h11 => ?_)
  · skip
    try simp only [Bool.and_true, Bool.true_and, decide_eq_true_eq, decide_eq_false_iff_not, Bool.and_eq_true, Bool.or_eq_true, Bool.and_eq_false_iff, Bool.or_eq_false_iff, Bool.not_eq_true', Bool.not_eq_false', beq_iff_eq, beq_eq_false_iff_ne, Int.not_lt, Int.not_le] at h11
    have hm1 : x.1 ≤ (x.1 + x.2) / 2 := by omega
    have hm2 : (x.1 + x.2) / 2 < x.2 := by omega
    refine St.skip ?_
    refine St.then_normal ?_
    refine St.block ?_
    refine St.seq ?_
    refine St.rg ?_
    refine St.ev _ (Ev.move (Opd.mk rfl)) rfl ?_
    refine St.ev _ (Ev.move (Opd.mk rfl)) rfl ?_
    refine St.ev _ (Ev.add (Opd.mk rfl) (Opd.mk rfl) (by omega)) rfl ?_
    refine St.ev _ (Ev.convIN ((x.1 + x.2)) (Opd.mk rfl) (by rw [Tryz.underlying3]; rfl) Tryz.underlying80 (by omega)) rfl ?_
    refine St.ev _ (Ev.shrU 1 2 (by decide) (Opd.mk rfl) (Opd.mk rfl) (by decide)) rfl ?_
    refine St.ev _ (Ev.convUI (Opd.mk rfl) (by rw [Tryz.underlying80]; rfl) Tryz.underlying3 (by omega)) rfl ?_
    refine St.ev _ (Ev.assign (Opd.mk rfl)) rfl ?_
    refine St.nil ?_
    refine St.then_normal ?_
    refine St.seq ?_
    refine St.rg ?_
    refine St.ev _ (Ev.move (Opd.mk rfl)) rfl ?_
    refine St.ev _ (Ev.move (Opd.mk rfl)) rfl ?_
    refine St.ev _ (Ev.callc (hcl ((x.1 + x.2) / 2) (by omega)) hcb (Opd.mk rfl) (Opds.cons (Opd.mk rfl) Opds.nil)) rfl ?_
    refine St.ev _ (Ev.not (Opd.mk rfl)) rfl ?_
    refine St.nil ?_
    refine St.then_normal ?_
    refine St.cond _ rfl (fun h21 => ?_) (fun h21 => ?_)
    · skip
      simp only [Bool.not_eq_true', Bool.not_eq_false'] at h21
      refine St.rg ?_
      refine St.ev _ (Ev.move (Opd.mk rfl)) rfl ?_
      refine St.ev _ (Ev.add (Opd.mk rfl) (Opd.mk rfl) (by omega)) rfl ?_
      refine St.ev _ (Ev.assign (Opd.mk rfl)) rfl ?_
      refine St.nil ?_
      refine St.in_normal ?_
      refine St.then_normal ?_
      have hv3 : ∀ k, k < (x.1 + x.2) / 2 + 1 → q k = false := by
        intro k hk
        cases hc : q k with
        | false => rfl
        | true => have := hq k ((x.1 + x.2) / 2) (by omega) (by omega) hc; rw [h21] at this; cases this
      refine St.againS ((x.1 + x.2) / 2 + 1, x.2) ⟨hm2, hk2, hv3, hv2⟩ (by first | omega | (dsimp only; omega)) (by repeat (first | exact Sub.nil | refine Sub.cons (by first | rfl | exact congrArg (fun z => some (iv z)) (by first | omega | (dsimp only; omega)) | exact congrArg (fun z => some (Value.bool z)) (by first | assumption | exact Eq.symm (by assumption))) ?_)) (fun _ hw => hw.sub)
    · skip
      simp only [Bool.not_eq_true', Bool.not_eq_false'] at h21
      refine St.rg ?_
      refine St.ev _ (Ev.move (Opd.mk rfl)) rfl ?_
      refine St.ev _ (Ev.assign (Opd.mk rfl)) rfl ?_
      refine St.nil ?_
      refine St.in_normal ?_
      refine St.then_normal ?_
      refine St.againS (x.1, (x.1 + x.2) / 2) ⟨hm1, by omega, hv1, fun k h1 h2 => hq ((x.1 + x.2) / 2) k h1 h2 h21⟩ (by first | omega | (dsimp only; omega)) (by repeat (first | exact Sub.nil | refine Sub.cons (by first | rfl | exact congrArg (fun z => some (iv z)) (by first | omega | (dsimp only; omega)) | exact congrArg (fun z => some (Value.bool z)) (by first | assumption | exact Eq.symm (by assumption))) ?_)) (fun _ hw => hw.sub)
  · skip
    try simp only [Bool.and_true, Bool.true_and, decide_eq_true_eq, decide_eq_false_iff_not, Bool.and_eq_true, Bool.or_eq_true, Bool.and_eq_false_iff, Bool.or_eq_false_iff, Bool.not_eq_true', Bool.not_eq_false', beq_iff_eq, beq_eq_false_iff_ne, Int.not_lt, Int.not_le] at h11
    refine St.exit ?_
    refine St.then_exit ?_
    refine St.then_exit ?_
    refine St.in_hit ?_
    refine St.then_normal ?_
    refine St.seq ?_
    refine St.rg ?_
    refine St.ev _ (Ev.move (Opd.mk rfl)) rfl ?_
    refine St.ev _ (Ev.assign (Opd.mk rfl)) rfl ?_
    refine St.nil ?_
    refine St.then_normal ?_
    refine St.rett ?_
    refine St.rets [_] [] Tryz.results78 ⟨rfl, trivial⟩ ?_ (fun _ hw => hw.sub)
    exact ie (by rw [search_end (by omega) hv1 (fun k h1 h2 => hv2 k (by omega) h2)])

theorem find1_spec (v0 v2 : Value) (p part : List Int) (hn : p.length ≤ 2000) (hsz : part.length ≤ 4611686018427387904) (bp bq : Nat) (i : Nat) (hi : i < p.length) : FnV Tryz.prog 77 #[iv i, Value.pointer (some ⟨bp, 0, none⟩), Value.pointer (some ⟨bq, 0, none⟩)] [cel bp v0, cel bq v2, sl intR v0 p, sl intR v2 part] (slv v0 1 i (min p.length (i + part.length))) := by
  refine FnV.body4 (args := [iv i, Value.pointer (some ⟨bp, 0, none⟩), Value.pointer (some ⟨bq, 0, none⟩)]) 15 Tryz.func77 rfl Tryz.ntmps77 rfl (fun c => ?_)
  refine St.seq ?_
  refine St.rg ?_
  refine St.ev _ (Ev.assign (Opd.mk rfl)) rfl ?_
  refine St.nil ?_
  refine St.then_normal ?_
  refine St.seq ?_
  refine St.rg ?_
  refine St.ev _ (Ev.ldcel (Opd.mk rfl) Tryz.underlying25 trivial) rfl ?_
  refine St.ev _ (Ev.move (Opd.mk rfl)) rfl ?_
  refine St.ev _ (Ev.ldcel (Opd.mk rfl) Tryz.underlying25 trivial) rfl ?_
  refine St.ev _ (Ev.lensl (Opd.mk rfl) Tryz.underlying25) rfl ?_
  refine St.ev _ (Ev.move (Opd.mk rfl)) rfl ?_
  refine St.ev _ (Ev.ldcel (Opd.mk rfl) Tryz.underlying25 trivial) rfl ?_
  refine St.ev _ (Ev.lensl (Opd.mk rfl) Tryz.underlying25) rfl ?_
  refine St.ev _ (Ev.add (Opd.mk rfl) (Opd.mk rfl) (by omega)) rfl ?_
  refine St.ev _ (Ev.minI (Opd.mk rfl) (Opd.mk rfl)) rfl ?_
  refine St.ev _ (Ev.slicesl (l := i) (h := (min p.length (i + part.length))) (Opd.mk rfl) (Opd.mk rfl) (Opd.mk rfl) Tryz.underlying25 sz3 (by omega) (by omega) (by omega) (by omega)) rfl ?_
  refine St.ev _ (Ev.assign (Opd.mk rfl)) rfl ?_
  refine St.nil ?_
  refine St.then_normal ?_
  refine St.rett ?_
  refine St.rets [_] [] Tryz.results77 ⟨rfl, trivial⟩ ?_ (fun _ hw => hw.sub)
  rfl

theorem find1_specC (v0 v2 : Value) (p part : List Int) (hn : p.length ≤ 2000) (hsz : part.length ≤ 4611686018427387904) (bp bq : Nat) (i : Nat) (hi : i < p.length) : FnV Tryz.prog 77 ([iv i] ++ [Value.pointer (some ⟨bp, 0, none⟩), Value.pointer (some ⟨bq, 0, none⟩)]).toArray [cel bp v0, cel bq v2, sl intR v0 p, sl intR v2 part] (slv v0 1 i (min p.length (i + part.length))) := find1_spec v0 v2 p part hn hsz bp bq i hi

theorem find2_spec (v0 v1 v2 : Value) (p part : List Int) (l : List Nat) (hn : p.length ≤ 2000) (hsz : part.length ≤ 4611686018427387904) (hl : l.Perm (List.range p.length)) (bp bq b9 b4 : Nat) (k : Nat) (hk : k < l.length) :
    FnV Tryz.prog 79 #[iv k, Value.pointer (some ⟨b9, 0, none⟩), Value.pointer (some ⟨b4, 0, none⟩), Value.pointer (some ⟨bq, 0, none⟩)] [cel b9 (.func (.func 77) #[] #[Value.pointer (some ⟨bp, 0, none⟩), Value.pointer (some ⟨bq, 0, none⟩)]), cel b4 v1, cel bq v2, cel bp v0, sl intR v0 p, sl intR v1 (ints l), sl intR v2 part] (.bool (!llt (pre p part.length (l.getD k 0)) part)) := by
  refine FnV.body7 (args := [iv k, Value.pointer (some ⟨b9, 0, none⟩), Value.pointer (some ⟨b4, 0, none⟩), Value.pointer (some ⟨bq, 0, none⟩)]) 15 Tryz.func79 rfl Tryz.ntmps79 rfl (fun c => ?_)
  refine St.seq ?_
  refine St.rg ?_
  refine St.ev _ (Ev.assign (Opd.mk rfl)) rfl ?_
  refine St.nil ?_
  refine St.then_normal ?_
  refine St.seq ?_
  have hll : l.length = p.length := by rw [hl.length_eq, List.length_range]
  have hi := perm_lt hl (show k < p.length by omega)
  have hli := ints_length l
  have hat : (ints l)[k]? = some ((l.getD k 0 : Nat) : Int) := by rw [some_getD 0 (show k < (ints l).length by omega), ints_getD]
  refine St.part v0 (l.getD k 0) (min p.length (l.getD k 0 + part.length)) (by omega) (by omega) ?_
  rw [show intR.size = 1 from rfl, pre_cut (show l.getD k 0 ≤ p.length by omega)]
  refine St.rq mixed (by kernel_rfl) (Mm.drawn _ _) ?_
  refine Sq.ev _ (Ev.ldcel (Opd.mk rfl) Tryz.underlying107 trivial) rfl ?_
  refine Sq.ev _ (Ev.ldcel (Opd.mk rfl) Tryz.underlying25 trivial) rfl ?_
  refine Sq.ev _ (Ev.move (Opd.mk rfl)) rfl ?_
  refine Sq.ev _ (Ev.idxaddr (k := k) (Opd.mk rfl) (Opd.mk rfl) Tryz.underlying25 sz3 (by omega) (by omega)) rfl ?_
  refine Sq.ev _ (Ev.ld1 (Opd.mk rfl) hat Tryz.underlying3 trivial rfl) rfl ?_
  refine Sq.ev _ (Ev.callc (find1_specC v0 v2 p part hn hsz bp bq (l.getD k 0) hi) cb77 (Opd.mk rfl) (Opds.cons (Opd.mk rfl) Opds.nil)) rfl ?_
  refine Sq.ev _ (Ev.ldcel (Opd.mk rfl) Tryz.underlying25 trivial) rfl ?_
  refine Sq.ev _ (Ev.call (CompareL_spec (slv v0 1 (l.getD k 0) (min p.length (l.getD k 0 + part.length))) v2 (pre p part.length (l.getD k 0)) part) cb80 (Opds.cons (Opd.mk rfl) (Opds.cons (Opd.mk rfl) Opds.nil))) rfl ?_
  refine Sq.ev _ (Ev.geq (Opd.mk rfl) (Opd.mk rfl)) rfl ?_
  refine Sq.ev _ (Ev.assign (Opd.mk rfl)) rfl ?_
  refine Sq.nil ?_
  refine St.then_normal ?_
  refine St.rett ?_
  refine St.rets [_] [] Tryz.results79 ⟨rfl, trivial⟩ ?_ (fun _ hw => hw.sub)
  exact be (lcmp_ge _ _)

theorem find3_spec (v0 v1 v2 : Value) (p part : List Int) (l : List Nat) (hn : p.length ≤ 2000) (hsz : part.length ≤ 4611686018427387904) (hl : l.Perm (List.range p.length)) (bp bq b9 b4 : Nat) (k : Nat) (hk : k < l.length) :
    FnV Tryz.prog 81 #[iv k, Value.pointer (some ⟨b9, 0, none⟩), Value.pointer (some ⟨b4, 0, none⟩), Value.pointer (some ⟨bq, 0, none⟩)] [cel b9 (.func (.func 77) #[] #[Value.pointer (some ⟨bp, 0, none⟩), Value.pointer (some ⟨bq, 0, none⟩)]), cel b4 v1, cel bq v2, cel bp v0, sl intR v0 p, sl intR v1 (ints l), sl intR v2 part] (.bool (llt part (pre p part.length (l.getD k 0)))) := by
  refine FnV.body7 (args := [iv k, Value.pointer (some ⟨b9, 0, none⟩), Value.pointer (some ⟨b4, 0, none⟩), Value.pointer (some ⟨bq, 0, none⟩)]) 15 Tryz.func81 rfl Tryz.ntmps81 rfl (fun c => ?_)
  refine St.seq ?_
  refine St.rg ?_
  refine St.ev _ (Ev.assign (Opd.mk rfl)) rfl ?_
  refine St.nil ?_
  refine St.then_normal ?_
  refine St.seq ?_
  have hll : l.length = p.length := by rw [hl.length_eq, List.length_range]
  have hi := perm_lt hl (show k < p.length by omega)
  have hli := ints_length l
  have hat : (ints l)[k]? = some ((l.getD k 0 : Nat) : Int) := by rw [some_getD 0 (show k < (ints l).length by omega), ints_getD]
  refine St.part v0 (l.getD k 0) (min p.length (l.getD k 0 + part.length)) (by omega) (by omega) ?_
  rw [show intR.size = 1 from rfl, pre_cut (show l.getD k 0 ≤ p.length by omega)]
  refine St.rq mixed (by kernel_rfl) (Mm.drawn _ _) ?_
  refine Sq.ev _ (Ev.ldcel (Opd.mk rfl) Tryz.underlying107 trivial) rfl ?_
  refine Sq.ev _ (Ev.ldcel (Opd.mk rfl) Tryz.underlying25 trivial) rfl ?_
  refine Sq.ev _ (Ev.move (Opd.mk rfl)) rfl ?_
  refine Sq.ev _ (Ev.idxaddr (k := k) (Opd.mk rfl) (Opd.mk rfl) Tryz.underlying25 sz3 (by omega) (by omega)) rfl ?_
  refine Sq.ev _ (Ev.ld1 (Opd.mk rfl) hat Tryz.underlying3 trivial rfl) rfl ?_
  refine Sq.ev _ (Ev.callc (find1_specC v0 v2 p part hn hsz bp bq (l.getD k 0) hi) cb77 (Opd.mk rfl) (Opds.cons (Opd.mk rfl) Opds.nil)) rfl ?_
  refine Sq.ev _ (Ev.ldcel (Opd.mk rfl) Tryz.underlying25 trivial) rfl ?_
  refine Sq.ev _ (Ev.call (CompareL_spec (slv v0 1 (l.getD k 0) (min p.length (l.getD k 0 + part.length))) v2 (pre p part.length (l.getD k 0)) part) cb80 (Opds.cons (Opd.mk rfl) (Opds.cons (Opd.mk rfl) Opds.nil))) rfl ?_
  refine Sq.ev _ (Ev.gtr (Opd.mk rfl) (Opd.mk rfl)) rfl ?_
  refine Sq.ev _ (Ev.assign (Opd.mk rfl)) rfl ?_
  refine Sq.nil ?_
  refine St.then_normal ?_
  refine St.rett ?_
  refine St.rets [_] [] Tryz.results81 ⟨rfl, trivial⟩ ?_ (fun _ hw => hw.sub)
  exact be (lcmp_gt _ _)

end Go.Proofs.YtgikcbfdonjggaaGreatDoor

/-
  (YtgikcbfdonjggaaGreatDoorJ17)
  The library's sort of numbers, as a contract over a row that the call owns.
  Conditions: none; everything holds of any program.
-/
namespace Go.J
open Go Go.Proofs Go.Shelf Go.RowKit Go.Lib Go.Sort

theorem sortI_spec {P : Program} {ρr : Ren} (L : SlLaysM.n5 P ρr) (v : Value) (e : TypeId) (xs : List Int) (hlen : xs.length < 4611686018427387904) :
    FnH P (ρr.f 5) #[v] [row v e 1 xs.length (rows intR xs)] (fun u H' => u = .tuple #[] ∧ H' = [row v e 1 xs.length (rows intR (xs.mergeSort fun x y => decide (x ≤ y)))]) := by
  intro w ρ st0
  have st : Start (([] : List Dat).map dat ++ [row v e 1 xs.length (xs.map (Value.int .i64))]) ρ w := by
    rw [rows_intR] at st0; exact st0
  have hO : owns [row v e 1 xs.length (rows intR xs)] = owns (([] : List Dat).map dat ++ [row v e 1 xs.length (xs.map (Value.int .i64))]) := by rw [rows_intR]; rfl
  rw [hO]
  have hrow := row_ok.1 (st.ents _ (List.mem_append_right _ (List.mem_singleton_self _)))
  have none : ∀ (p : Option Addr) (cap : Nat), v = .slice p 0 cap → xs = [] → Calls P (ρr.f 5) #[v] w fun e_1 w' => ∃ v_1 H', e_1 = .returned v_1 ∧
      (v_1 = .tuple #[] ∧ H' = [row v e 1 xs.length (rows intR (xs.mergeSort fun x y => decide (x ≤ y)))]) ∧ Mm ⟨w, ρ, owns (([] : List Dat).map dat ++ [row v e 1 xs.length (xs.map (Value.int .i64))]), True⟩ H' w' := by
    intro p cap hv hd0
    have hc := AnyM.slices_Sort_int_none (P := P) (ρ := ρr) L p cap w
    rw [← hv] at hc
    refine hc.mono ?_
    rintro e' w' ⟨rfl, rfl⟩
    refine ⟨_, _, rfl, ⟨rfl, rfl⟩, ?_⟩
    rw [rows_intR, hd0, show ([] : List Int).mergeSort (fun x y => decide (x ≤ y)) = [] from List.mergeSort_nil]
    rw [hd0] at st
    exact st.stays
  rcases hrow.2 with ⟨hv, hn⟩ | ⟨g0, cap, cur, hv, _, hg, hnc, hcm, hcs, htk⟩
  · exact none _ _ hv (List.eq_nil_of_length_eq_zero hn)
  · by_cases hz : xs.length = 0
    · rw [hz] at hv; exact none _ _ hv (List.eq_nil_of_length_eq_zero hz)
    · obtain ⟨hH, hblk, hle, hend⟩ := Start.sorted st hv hg hnc hcm hcs htk
      have main := AnyM.slices_Sort_int L g0 0 cap xs w hH hblk hlen
      rw [← hv] at main
      refine main.mono ?_
      rintro e' w' ⟨rfl, n, os, rfl⟩
      refine ⟨_, _, rfl, ⟨rfl, rfl⟩, ?_⟩
      rw [rows_intR]
      have := hend n (xs.mergeSort fun x y => decide (x ≤ y)).toArray os (by simp)
      exact this
end Go.J

/-
  (YtgikcbfdonjggaaGreatDoorLay2)
  The library's sorts of numbers and of texts, laid at this program: their functions are those that the contracts were proved of.
  Conditions: none.
-/
namespace Go.Proofs
open Go.Shelf
def Tryz.laysSlM5_f83_ren : Go.Shelf.Ren := ⟨fun | 5 => 83 | 8 => 44 | 7 => 96 | 19 => 66 | 20 => 67 | 10 => 104 | 11 => 105 | 12 => 106 | 13 => 107 | 14 => 108 | 15 => 109 | 16 => 110 | 17 => 111 | 18 => 112 | 30 => 126 | 31 => 90 | 32 => 91 | 33 => 127 | 34 => 128 | 35 => 55 | 40 => 133 | n => n, fun | 23 => 25 | 25 => 3 | 3 => 3 | 32 => 80 | 22 => 25 | 0 => 0 | 44 => 99 | 46 => 101 | 4 => 4 | 36 => 93 | 35 => 92 | 41 => 81 | 5 => 5 | 9 => 9 | 53 => 118 | 57 => 122 | 63 => 132 | 64 => 133 | n => n, fun | n => n⟩
theorem Tryz.laysSlM5_f83 : Go.Proofs.SlLaysM.n5 Tryz.prog Tryz.laysSlM5_f83_ren := {
  mixed := by kernel_rfl
  f5 := ⟨Tryz.f83.name, by decide, Tryz.func83.trans (congrArg some (by kernel_rfl))⟩
  f7 := ⟨Tryz.f96.name, by decide, Tryz.func96.trans (congrArg some (by kernel_rfl))⟩
  f8 := Tryz.func44.trans (congrArg some (by kernel_rfl))
  f10 := ⟨Tryz.f104.name, by decide, Tryz.func104.trans (congrArg some (by kernel_rfl))⟩
  f11 := ⟨Tryz.f105.name, by decide, Tryz.func105.trans (congrArg some (by kernel_rfl))⟩
  f12 := ⟨Tryz.f106.name, by decide, Tryz.func106.trans (congrArg some (by kernel_rfl))⟩
  f13 := ⟨Tryz.f107.name, by decide, Tryz.func107.trans (congrArg some (by kernel_rfl))⟩
  f14 := ⟨Tryz.f108.name, by decide, Tryz.func108.trans (congrArg some (by kernel_rfl))⟩
  f15 := ⟨Tryz.f109.name, by decide, Tryz.func109.trans (congrArg some (by kernel_rfl))⟩
  f16 := ⟨Tryz.f110.name, by decide, Tryz.func110.trans (congrArg some (by kernel_rfl))⟩
  f17 := ⟨Tryz.f111.name, by decide, Tryz.func111.trans (congrArg some (by kernel_rfl))⟩
  f18 := ⟨Tryz.f112.name, by decide, Tryz.func112.trans (congrArg some (by kernel_rfl))⟩
  f19 := Tryz.func66.trans (congrArg some (by kernel_rfl))
  f20 := Tryz.func67.trans (congrArg some (by kernel_rfl))
  f30 := ⟨Tryz.f126.name, by decide, Tryz.func126.trans (congrArg some (by kernel_rfl))⟩
  f31 := Tryz.func90.trans (congrArg some (by kernel_rfl))
  f32 := Tryz.func91.trans (congrArg some (by kernel_rfl))
  f33 := ⟨Tryz.f127.name, by decide, Tryz.func127.trans (congrArg some (by kernel_rfl))⟩
  f34 := ⟨Tryz.f128.name, by decide, Tryz.func128.trans (congrArg some (by kernel_rfl))⟩
  f35 := ⟨Tryz.f55.name, by decide, Tryz.func55.trans (congrArg some (by kernel_rfl))⟩
  f40 := ⟨Tryz.f133.name, by decide, Tryz.func133.trans (congrArg some (by kernel_rfl))⟩
  t0 := Tryz.underlying0
  a0 := Tryz.isAgg0
  z0 := Tryz.sizeOf0
  v0 := Tryz.zeroValue0
  t3 := Tryz.underlying3
  a3 := Tryz.isAgg3
  z3 := Tryz.sizeOf3
  v3 := Tryz.zeroValue3
  t4 := Tryz.underlying4
  a4 := Tryz.isAgg4
  z4 := Tryz.sizeOf4
  v4 := Tryz.zeroValue4
  t5 := Tryz.underlying5
  a5 := Tryz.isAgg5
  z5 := Tryz.sizeOf5
  v5 := Tryz.zeroValue5
  t9 := Tryz.underlying9
  a9 := Tryz.isAgg9
  z9 := Tryz.sizeOf9
  v9 := Tryz.zeroValue9
  t22 := Tryz.underlying25
  a22 := Tryz.isAgg25
  z22 := Tryz.sizeOf25
  v22 := Tryz.zeroValue25
  t23 := Tryz.underlying25
  a23 := Tryz.isAgg25
  z23 := Tryz.sizeOf25
  v23 := Tryz.zeroValue25
  t25 := Tryz.underlying3
  a25 := Tryz.isAgg3
  z25 := Tryz.sizeOf3
  v25 := Tryz.zeroValue3
  t32 := Tryz.underlying80
  a32 := Tryz.isAgg80
  z32 := Tryz.sizeOf80
  v32 := Tryz.zeroValue80
  t35 := Tryz.underlying92
  a35 := Tryz.isAgg92
  z35 := Tryz.sizeOf92
  v35 := Tryz.zeroValue92
  t36 := Tryz.underlying93
  a36 := Tryz.isAgg93
  z36 := Tryz.sizeOf93
  v36 := Tryz.zeroValue93
  t41 := Tryz.underlying81
  a41 := Tryz.isAgg81
  z41 := Tryz.sizeOf81
  v41 := Tryz.zeroValue81
  t44 := Tryz.underlying99
  a44 := Tryz.isAgg99
  z44 := Tryz.sizeOf99
  v44 := Tryz.zeroValue99
  t46 := Tryz.underlying101
  a46 := Tryz.isAgg101
  z46 := Tryz.sizeOf101
  v46 := Tryz.zeroValue101
  t53 := Tryz.underlying118
  a53 := Tryz.isAgg118
  z53 := Tryz.sizeOf118
  v53 := Tryz.zeroValue118
  t57 := Tryz.underlying122
  a57 := Tryz.isAgg122
  z57 := Tryz.sizeOf122
  v57 := Tryz.zeroValue122
  t63 := Tryz.underlying132
  a63 := Tryz.isAgg132
  z63 := Tryz.sizeOf132
  v63 := Tryz.zeroValue132
  t64 := Tryz.underlying133
  a64 := Tryz.isAgg133
  z64 := Tryz.sizeOf133
  v64 := Tryz.zeroValue133 }
def Tryz.laysSlM6_f28_ren : Go.Shelf.Ren := ⟨fun | 6 => 28 | 8 => 44 | 9 => 43 | 19 => 66 | 20 => 67 | 21 => 57 | 22 => 58 | 23 => 59 | 24 => 60 | 25 => 61 | 26 => 62 | 27 => 63 | 28 => 64 | 29 => 65 | 36 => 89 | 31 => 90 | 32 => 91 | 37 => 92 | 38 => 93 | 39 => 88 | 41 => 102 | n => n, fun | 27 => 23 | 29 => 9 | 3 => 3 | 32 => 80 | 26 => 23 | 0 => 0 | 44 => 99 | 46 => 101 | 4 => 4 | 36 => 93 | 35 => 92 | 41 => 81 | 5 => 5 | 9 => 9 | 53 => 118 | 57 => 122 | 63 => 132 | 64 => 133 | n => n, fun | n => n⟩
theorem Tryz.laysSlM6_f28 : Go.Proofs.SlLaysM.n6 Tryz.prog Tryz.laysSlM6_f28_ren := {
  mixed := by kernel_rfl
  f6 := ⟨Tryz.f28.name, by decide, Tryz.func28.trans (congrArg some (by kernel_rfl))⟩
  f8 := Tryz.func44.trans (congrArg some (by kernel_rfl))
  f9 := ⟨Tryz.f43.name, by decide, Tryz.func43.trans (congrArg some (by kernel_rfl))⟩
  f19 := Tryz.func66.trans (congrArg some (by kernel_rfl))
  f20 := Tryz.func67.trans (congrArg some (by kernel_rfl))
  f21 := ⟨Tryz.f57.name, by decide, Tryz.func57.trans (congrArg some (by kernel_rfl))⟩
  f22 := ⟨Tryz.f58.name, by decide, Tryz.func58.trans (congrArg some (by kernel_rfl))⟩
  f23 := ⟨Tryz.f59.name, by decide, Tryz.func59.trans (congrArg some (by kernel_rfl))⟩
  f24 := ⟨Tryz.f60.name, by decide, Tryz.func60.trans (congrArg some (by kernel_rfl))⟩
  f25 := ⟨Tryz.f61.name, by decide, Tryz.func61.trans (congrArg some (by kernel_rfl))⟩
  f26 := ⟨Tryz.f62.name, by decide, Tryz.func62.trans (congrArg some (by kernel_rfl))⟩
  f27 := ⟨Tryz.f63.name, by decide, Tryz.func63.trans (congrArg some (by kernel_rfl))⟩
  f28 := ⟨Tryz.f64.name, by decide, Tryz.func64.trans (congrArg some (by kernel_rfl))⟩
  f29 := ⟨Tryz.f65.name, by decide, Tryz.func65.trans (congrArg some (by kernel_rfl))⟩
  f31 := Tryz.func90.trans (congrArg some (by kernel_rfl))
  f32 := Tryz.func91.trans (congrArg some (by kernel_rfl))
  f36 := ⟨Tryz.f89.name, by decide, Tryz.func89.trans (congrArg some (by kernel_rfl))⟩
  f37 := ⟨Tryz.f92.name, by decide, Tryz.func92.trans (congrArg some (by kernel_rfl))⟩
  f38 := ⟨Tryz.f93.name, by decide, Tryz.func93.trans (congrArg some (by kernel_rfl))⟩
  f39 := ⟨Tryz.f88.name, by decide, Tryz.func88.trans (congrArg some (by kernel_rfl))⟩
  f41 := ⟨Tryz.f102.name, by decide, Tryz.func102.trans (congrArg some (by kernel_rfl))⟩
  t0 := Tryz.underlying0
  a0 := Tryz.isAgg0
  z0 := Tryz.sizeOf0
  v0 := Tryz.zeroValue0
  t3 := Tryz.underlying3
  a3 := Tryz.isAgg3
  z3 := Tryz.sizeOf3
  v3 := Tryz.zeroValue3
  t4 := Tryz.underlying4
  a4 := Tryz.isAgg4
  z4 := Tryz.sizeOf4
  v4 := Tryz.zeroValue4
  t5 := Tryz.underlying5
  a5 := Tryz.isAgg5
  z5 := Tryz.sizeOf5
  v5 := Tryz.zeroValue5
  t9 := Tryz.underlying9
  a9 := Tryz.isAgg9
  z9 := Tryz.sizeOf9
  v9 := Tryz.zeroValue9
  t26 := Tryz.underlying23
  a26 := Tryz.isAgg23
  z26 := Tryz.sizeOf23
  v26 := Tryz.zeroValue23
  t27 := Tryz.underlying23
  a27 := Tryz.isAgg23
  z27 := Tryz.sizeOf23
  v27 := Tryz.zeroValue23
  t29 := Tryz.underlying9
  a29 := Tryz.isAgg9
  z29 := Tryz.sizeOf9
  v29 := Tryz.zeroValue9
  t32 := Tryz.underlying80
  a32 := Tryz.isAgg80
  z32 := Tryz.sizeOf80
  v32 := Tryz.zeroValue80
  t35 := Tryz.underlying92
  a35 := Tryz.isAgg92
  z35 := Tryz.sizeOf92
  v35 := Tryz.zeroValue92
  t36 := Tryz.underlying93
  a36 := Tryz.isAgg93
  z36 := Tryz.sizeOf93
  v36 := Tryz.zeroValue93
  t41 := Tryz.underlying81
  a41 := Tryz.isAgg81
  z41 := Tryz.sizeOf81
  v41 := Tryz.zeroValue81
  t44 := Tryz.underlying99
  a44 := Tryz.isAgg99
  z44 := Tryz.sizeOf99
  v44 := Tryz.zeroValue99
  t46 := Tryz.underlying101
  a46 := Tryz.isAgg101
  z46 := Tryz.sizeOf101
  v46 := Tryz.zeroValue101
  t53 := Tryz.underlying118
  a53 := Tryz.isAgg118
  z53 := Tryz.sizeOf118
  v53 := Tryz.zeroValue118
  t57 := Tryz.underlying122
  a57 := Tryz.isAgg122
  z57 := Tryz.sizeOf122
  v57 := Tryz.zeroValue122
  t63 := Tryz.underlying132
  a63 := Tryz.isAgg132
  z63 := Tryz.sizeOf132
  v63 := Tryz.zeroValue132
  t64 := Tryz.underlying133
  a64 := Tryz.isAgg133
  z64 := Tryz.sizeOf133
  v64 := Tryz.zeroValue133 }
end Go.Proofs
