/-
  Plain facts on lists of numbers in their order, and on sorting the ends of a list by beginnings that are twice as long: no program stands here.
  Conditions: none.
-/
import Derived.Test.YtblmnncmkibhnaaJP
namespace Go.J
open Go

/-- the order of lists -/
def llt : List Int → List Int → Bool
  | [], [] => false
  | [], _ :: _ => true
  | _ :: _, [] => false
  | a :: x, b :: y => decide (a < b) || (decide (a = b) && llt x y)
theorem llt_irrefl : ∀ x : List Int, llt x x = false
  | [] => rfl
  | a :: x => by simp [llt, llt_irrefl x]
theorem llt_trans : ∀ {x y z : List Int}, llt x y = true → llt y z = true → llt x z = true
  | [], [], _, h, _ => by simp [llt] at h
  | [], _ :: _, [], _, h => by simp [llt] at h
  | [], _ :: _, _ :: _, _, _ => rfl
  | _ :: _, [], _, h, _ => by simp [llt] at h
  | _ :: _, _ :: _, [], _, h => by simp [llt] at h
  | a :: x, b :: y, c :: z, h, k => by
    simp only [llt, Bool.or_eq_true, Bool.and_eq_true, decide_eq_true_eq] at h k ⊢
    rcases h with h | ⟨h, h'⟩
    · left; rcases k with k | ⟨k, _⟩ <;> omega
    · rcases k with k | ⟨k, k'⟩
      · left; omega
      · right; exact ⟨by omega, llt_trans h' k'⟩
theorem llt_tri : ∀ (x y : List Int), llt x y = true ∨ x = y ∨ llt y x = true
  | [], [] => .inr (.inl rfl)
  | [], _ :: _ => .inl rfl
  | _ :: _, [] => .inr (.inr rfl)
  | a :: x, b :: y => by
    simp only [llt, Bool.or_eq_true, Bool.and_eq_true, decide_eq_true_eq, List.cons.injEq]
    rcases Int.lt_trichotomy a b with h | h | h
    · exact .inl (.inl h)
    · rcases llt_tri x y with k | k | k
      · exact .inl (.inr ⟨h, k⟩)
      · exact .inr (.inl ⟨h, k⟩)
      · exact .inr (.inr (.inr ⟨h.symm, k⟩))
    · exact .inr (.inr (.inl h))
theorem llt_asymm {x y : List Int} (h : llt x y = true) : llt y x = false := by
  cases k : llt y x with
  | false => rfl
  | true => have := llt_trans h k; rw [llt_irrefl] at this; cases this
theorem llt_ne {x y : List Int} (h : llt x y = true) : x ≠ y := by rintro rfl; rw [llt_irrefl] at h; cases h
/-- what stands behind two beginnings of one length, or of a whole list, counts last -/
theorem llt_append : ∀ {x y u v : List Int}, (x.length = y.length ∨ (x.length < y.length ∧ u = []) ∨ (y.length < x.length ∧ v = [])) → llt (x ++ u) (y ++ v) = (llt x y || (decide (x = y) && llt u v))
  | [], [], u, v, _ => by simp [llt]
  | [], b :: y, u, v, h => by
    rcases h with h | ⟨_, h⟩ | ⟨h, _⟩
    · simp at h
    · subst h; simp [llt]
    · simp at h
  | a :: x, [], u, v, h => by
    rcases h with h | ⟨h, _⟩ | ⟨_, h⟩
    · simp at h
    · simp at h
    · subst h; simp [llt]
  | a :: x, b :: y, u, v, h => by
    have ih := @llt_append x y u v (by simpa using h)
    simp only [List.cons_append, llt, ih, List.cons.injEq]
    by_cases h1 : a < b
    · have : a ≠ b := by omega
      simp [h1]
    · by_cases h2 : a = b
      · subst h2; simp
      · simp [h1, h2]

section
variable (p : List Int)
def pre (L i : Nat) : List Int := (p.drop i).take L
theorem pre_length (L i : Nat) : (pre p L i).length = min L (p.length - i) := by simp [pre]
theorem pre_add (L M i : Nat) : pre p (L + M) i = pre p L i ++ pre p M (i + L) := by
  unfold pre
  rw [List.take_add, List.drop_drop]
theorem pre_out {L i : Nat} (h : p.length ≤ i) : pre p L i = [] := by unfold pre; rw [List.drop_of_length_le h]; simp
theorem pre_whole {L i : Nat} (h : p.length ≤ i + L) : pre p L i = p.drop i := by unfold pre; rw [List.take_of_length_le (by simp; omega)]
/-- beginnings twice as long, by those before -/
theorem pre_double {L i j : Nat} : llt (pre p (L + L) i) (pre p (L + L) j) = (llt (pre p L i) (pre p L j) || (decide (pre p L i = pre p L j) && llt (pre p L (i + L)) (pre p L (j + L)))) := by
  rw [pre_add, pre_add]
  refine llt_append ?_
  rw [pre_length, pre_length]
  by_cases h1 : min L (p.length - i) = min L (p.length - j)
  · exact .inl h1
  · rcases Nat.lt_or_gt_of_ne h1 with h | h
    · exact .inr (.inl ⟨h, pre_out p (by omega)⟩)
    · exact .inr (.inr ⟨h, pre_out p (by omega)⟩)
theorem pre_double_eq {L i j : Nat} (hi : i < p.length) (hj : j < p.length) : pre p (L + L) i = pre p (L + L) j ↔ pre p L i = pre p L j ∧ pre p L (i + L) = pre p L (j + L) := by
  rw [pre_add, pre_add]
  constructor
  · intro h
    have hl := congrArg List.length h
    simp only [List.length_append, pre_length] at hl
    exact List.append_inj h (by rw [pre_length, pre_length]; omega)
  · rintro ⟨h1, h2⟩; rw [h1, h2]
/-- a rank by beginnings -/
structure IsRank (L : Nat) (rank : Nat → Int) : Prop where
  lt : ∀ i j, i < p.length → j < p.length → (rank i < rank j ↔ llt (pre p L i) (pre p L j) = true)
  eq : ∀ i j, i < p.length → j < p.length → (rank i = rank j ↔ pre p L i = pre p L j)
  pos : ∀ i, i < p.length → 0 ≤ rank i ∧ rank i < p.length
/-- the rank of what stands a step on; -1: nothing stands there -/
def second (L : Nat) (rank : Nat → Int) (i : Nat) : Int := if i + L < p.length then rank (i + L) else -1
variable {p}
theorem second_lt {L : Nat} {rank : Nat → Int} (hL : 0 < L) (h : IsRank p L rank) (i j : Nat) : second p L rank i < second p L rank j ↔ llt (pre p L (i + L)) (pre p L (j + L)) = true := by
  unfold second
  by_cases hi : i + L < p.length
  · by_cases hj : j + L < p.length
    · rw [if_pos hi, if_pos hj]; exact h.lt _ _ hi hj
    · rw [if_pos hi, if_neg hj, pre_out p (show p.length ≤ j + L by omega)]
      have := (h.pos _ hi).1
      constructor
      · intro k; omega
      · intro k; cases hx : pre p L (i + L) <;> rw [hx] at k <;> simp [llt] at k
  · by_cases hj : j + L < p.length
    · rw [if_neg hi, if_pos hj, pre_out p (show p.length ≤ i + L by omega)]
      have := (h.pos _ hj).1
      constructor
      · intro _
        cases hx : pre p L (j + L) with
        | nil =>
          have h2 := congrArg List.length hx
          rw [pre_length] at h2
          simp only [List.length_nil] at h2
          omega
        | cons a x => rfl
      · intro _; omega
    · rw [if_neg hi, if_neg hj, pre_out p (show p.length ≤ i + L by omega), pre_out p (show p.length ≤ j + L by omega)]; simp [llt]
/-- the sign of a comparison -/
def sgn (a b : Int) : Int := if a < b then -1 else if b < a then 1 else 0
theorem sgn_neg {a b : Int} : sgn a b < 0 ↔ a < b := by unfold sgn; split <;> (try split) <;> constructor <;> intro h <;> omega
theorem sgn_zero {a b : Int} : sgn a b = 0 ↔ a = b := by unfold sgn; split <;> (try split) <;> constructor <;> intro h <;> omega
/-- a comparison by keys, of the numbers below n -/
structure KeyCmp (n : Nat) (key : Nat → List Int) (cf : Nat → Nat → Int) : Prop where
  lt : ∀ i j, i < n → j < n → (cf i j < 0 ↔ llt (key i) (key j) = true)
  eq : ∀ i j, i < n → j < n → (cf i j = 0 ↔ key i = key j)
def cfR (p : List Int) (L : Nat) (rank : Nat → Int) (i j : Nat) : Int := if sgn (rank i) (rank j) ≠ 0 then sgn (rank i) (rank j) else sgn (second p L rank i) (second p L rank j)
theorem cfR_key {L : Nat} {rank : Nat → Int} (hL : 0 < L) (h : IsRank p L rank) : KeyCmp p.length (pre p (L + L)) (cfR p L rank) where
  lt i j hi hj := by
    rw [pre_double]
    have e1 := h.lt i j hi hj
    have e2 := h.eq i j hi hj
    have e3 := second_lt hL h i j
    unfold cfR
    simp only [Bool.or_eq_true, Bool.and_eq_true, decide_eq_true_eq]
    by_cases k : rank i = rank j
    · rw [if_neg (by simpa using sgn_zero.2 k), sgn_neg, e3]
      constructor
      · intro m; exact .inr ⟨e2.1 k, m⟩
      · rintro (m | m)
        · have := e1.2 m; omega
        · exact m.2
    · rw [if_pos (fun m => k (sgn_zero.1 m)), sgn_neg, e1]
      constructor
      · exact .inl
      · rintro (m | m)
        · exact m
        · exact absurd (e2.2 m.1) k
  eq i j hi hj := by
    rw [pre_double_eq p hi hj]
    have e2 := h.eq i j hi hj
    have e3 := second_lt hL h i j
    have e4 := second_lt hL h j i
    unfold cfR
    by_cases k : rank i = rank j
    · rw [if_neg (by simpa using sgn_zero.2 k), sgn_zero]
      constructor
      · intro m
        refine ⟨e2.1 k, ?_⟩
        rcases llt_tri (pre p L (i + L)) (pre p L (j + L)) with q | q | q
        · have := e3.2 q; omega
        · exact q
        · have := e4.2 q; omega
      · rintro ⟨_, m⟩
        rw [m] at e3 e4
        rw [llt_irrefl] at e3 e4
        simp only [Bool.false_eq_true, iff_false, Int.not_lt] at e3 e4
        omega
    · rw [if_pos (fun m => k (sgn_zero.1 m))]
      constructor
      · intro m; exact absurd (sgn_zero.1 m) k
      · rintro ⟨m, _⟩; exact absurd (e2.2 m) k
theorem pre_one (i : Nat) (hi : i < p.length) : pre p 1 i = [p.getD i 0] := by
  unfold pre
  rw [List.drop_eq_getElem_cons hi, List.take_succ_cons, List.take_zero, List.getD_eq_getElem?_getD, List.getElem?_eq_getElem hi]
  rfl
theorem cf1_key : KeyCmp p.length (pre p 1) (fun i j => sgn (p.getD i 0) (p.getD j 0)) where
  lt i j hi hj := by rw [pre_one i hi, pre_one j hj, sgn_neg]; simp [llt]
  eq i j hi hj := by rw [pre_one i hi, pre_one j hj, sgn_zero]; simp
end

/-! ranks of a sorted row -/
def rkAt (cf : Nat → Nat → Int) (l : List Nat) : Nat → Nat
  | 0 => 0
  | k + 1 => if cf (l.getD k 0) (l.getD (k + 1) 0) = 0 then rkAt cf l k else k + 1
section
variable {n : Nat} {key : Nat → List Int} {cf : Nat → Nat → Int} {l : List Nat}
theorem rkAt_le : ∀ k, rkAt cf l k ≤ k
  | 0 => Nat.le_refl _
  | k + 1 => by
    unfold rkAt
    split
    · exact Nat.le_succ_of_le (rkAt_le k)
    · exact Nat.le_refl _
theorem perm_lt (hp : l.Perm (List.range n)) {k : Nat} (hk : k < n) : l.getD k 0 < n := by
  have hl : l.length = n := by rw [hp.length_eq, List.length_range]
  have : l.getD k 0 ∈ l := by rw [List.getD_eq_getElem?_getD, List.getElem?_eq_getElem (by omega)]; exact List.getElem_mem _
  exact List.mem_range.1 (hp.mem_iff.1 this)
theorem perm_nodup (hp : l.Perm (List.range n)) : l.Nodup := hp.nodup_iff.2 List.nodup_range
theorem perm_inj (hp : l.Perm (List.range n)) {j k : Nat} (hj : j < n) (hk : k < n) (h : l.getD j 0 = l.getD k 0) : j = k := by
  have hl : l.length = n := by rw [hp.length_eq, List.length_range]
  have hn := perm_nodup hp
  rw [List.getD_eq_getElem?_getD, List.getElem?_eq_getElem (show j < l.length by omega), List.getD_eq_getElem?_getD, List.getElem?_eq_getElem (show k < l.length by omega)] at h
  simp only [Option.getD_some] at h
  exact (List.getElem_inj hn).1 h
theorem perm_at (hp : l.Perm (List.range n)) {i : Nat} (hi : i < n) : ∃ k, k < n ∧ l.getD k 0 = i := by
  have hl : l.length = n := by rw [hp.length_eq, List.length_range]
  have := hp.mem_iff.2 (List.mem_range.2 hi)
  obtain ⟨k, hk, rfl⟩ := List.mem_iff_getElem.1 this
  exact ⟨k, by omega, by rw [List.getD_eq_getElem?_getD, List.getElem?_eq_getElem hk]; rfl⟩
/-- sorted, equals next to one another -/
def Sorted (cf : Nat → Nat → Int) (l : List Nat) : Prop := ∀ j k, j < k → k < l.length → ¬ cf (l.getD k 0) (l.getD j 0) < 0
theorem rkAt_key (hK : KeyCmp n key cf) (hp : l.Perm (List.range n)) (hs : Sorted cf l) : ∀ k j, k < n → j ≤ k → (key (l.getD j 0) = key (l.getD k 0) ∧ rkAt cf l j = rkAt cf l k) ∨ (llt (key (l.getD j 0)) (key (l.getD k 0)) = true ∧ rkAt cf l j < rkAt cf l k)
  | 0, j, _, hj => by
    obtain rfl : j = 0 := by omega
    exact .inl ⟨rfl, rfl⟩
  | k + 1, j, hk, hj => by
    have hl : l.length = n := by rw [hp.length_eq, List.length_range]
    rcases Nat.lt_or_ge j (k + 1) with h1 | h1
    · have b1 := perm_lt hp (show k < n by omega)
      have b2 := perm_lt hp hk
      have ih := rkAt_key hK hp hs k j (by omega) (by omega)
      by_cases h2 : cf (l.getD k 0) (l.getD (k + 1) 0) = 0
      · have h3 := (hK.eq _ _ b1 b2).1 h2
        have h4 : rkAt cf l (k + 1) = rkAt cf l k := by rw [rkAt, if_pos h2]
        rw [h4, ← h3]; exact ih
      · have h4 : rkAt cf l (k + 1) = k + 1 := by rw [rkAt, if_neg h2]
        have h5 : llt (key (l.getD k 0)) (key (l.getD (k + 1) 0)) = true := by
          rcases llt_tri (key (l.getD k 0)) (key (l.getD (k + 1) 0)) with q | q | q
          · exact q
          · exact absurd ((hK.eq _ _ b1 b2).2 q) h2
          · exact absurd ((hK.lt _ _ b2 b1).2 q) (hs k (k + 1) (by omega) (by omega))
        right
        refine ⟨?_, by rw [h4]; exact Nat.lt_of_le_of_lt (rkAt_le j) h1⟩
        rcases ih with ⟨h6, _⟩ | ⟨h6, _⟩
        · rw [h6]; exact h5
        · exact llt_trans h6 h5
    · obtain rfl : j = k + 1 := by omega
      exact .inl ⟨rfl, rfl⟩
/-- what a row of ranks is to be -/
def Ranks (cf : Nat → Nat → Int) (l : List Nat) (rk : List Int) : Prop := rk.length = l.length ∧ ∀ k, k < l.length → rk.getD (l.getD k 0) 0 = rkAt cf l k
theorem ranks_is {p : List Int} {L : Nat} (hK : KeyCmp p.length (pre p L) cf) (hp : l.Perm (List.range p.length)) (hs : Sorted cf l) {rk : List Int} (hr : Ranks cf l rk) : IsRank p L (fun i => rk.getD i 0) := by
  have hl : l.length = p.length := by rw [hp.length_eq, List.length_range]
  have main : ∀ i j, i < p.length → j < p.length → (pre p L i = pre p L j ∧ rk.getD i 0 = rk.getD j 0) ∨ (llt (pre p L i) (pre p L j) = true ∧ rk.getD i 0 < rk.getD j 0) ∨ (llt (pre p L j) (pre p L i) = true ∧ rk.getD j 0 < rk.getD i 0) := by
    intro i j hi hj
    obtain ⟨a, ha, rfl⟩ := perm_at hp hi
    obtain ⟨b, hb, rfl⟩ := perm_at hp hj
    rw [hr.2 a (by omega), hr.2 b (by omega)]
    rcases Nat.le_total a b with h | h
    · rcases rkAt_key hK hp hs b a hb h with ⟨h1, h2⟩ | ⟨h1, h2⟩
      · exact .inl ⟨h1, by rw [h2]⟩
      · exact .inr (.inl ⟨h1, by omega⟩)
    · rcases rkAt_key hK hp hs a b ha h with ⟨h1, h2⟩ | ⟨h1, h2⟩
      · exact .inl ⟨h1.symm, by rw [h2]⟩
      · exact .inr (.inr ⟨h1, by omega⟩)
  refine ⟨fun i j hi hj => ?_, fun i j hi hj => ?_, fun i hi => ?_⟩
  · rcases main i j hi hj with ⟨h1, h2⟩ | ⟨h1, h2⟩ | ⟨h1, h2⟩
    · exact ⟨fun h => by omega, fun h => by rw [h1, llt_irrefl] at h; cases h⟩
    · exact ⟨fun _ => h1, fun _ => h2⟩
    · exact ⟨fun h => by omega, fun h => by rw [llt_asymm h1] at h; cases h⟩
  · rcases main i j hi hj with ⟨h1, h2⟩ | ⟨h1, h2⟩ | ⟨h1, h2⟩
    · exact ⟨fun _ => h1, fun _ => h2⟩
    · exact ⟨fun h => by omega, fun h => absurd h (llt_ne h1)⟩
    · exact ⟨fun h => by omega, fun h => absurd h.symm (llt_ne h1)⟩
  · obtain ⟨a, ha, rfl⟩ := perm_at hp hi
    rw [hr.2 a (by omega)]
    have := rkAt_le (cf := cf) (l := l) a
    omega
end
/-- the ends of a list in their order -/
def IsSuf (p : List Int) (l : List Nat) : Prop := l.Perm (List.range p.length) ∧ ∀ j k, j < k → k < l.length → llt (p.drop (l.getD j 0)) (p.drop (l.getD k 0)) = true
theorem drop_of_pre {p : List Int} {L i j : Nat} (h : llt (pre p L i) (pre p L j) = true) (hi : i < p.length) (hj : j < p.length) : llt (p.drop i) (p.drop j) = true := by
  have e1 : p.drop i = pre p L i ++ p.drop (i + L) := by unfold pre; rw [← List.drop_drop, List.take_append_drop]
  have e2 : p.drop j = pre p L j ++ p.drop (j + L) := by unfold pre; rw [← List.drop_drop, List.take_append_drop]
  rw [e1, e2, llt_append, h]
  · rfl
  · rw [pre_length, pre_length]
    by_cases h1 : min L (p.length - i) = min L (p.length - j)
    · exact .inl h1
    · rcases Nat.lt_or_gt_of_ne h1 with h | h
      · exact .inr (.inl ⟨h, List.drop_of_length_le (by omega)⟩)
      · exact .inr (.inr ⟨h, List.drop_of_length_le (by omega)⟩)
section
variable {p : List Int} {L : Nat} {cf : Nat → Nat → Int} {l : List Nat} {rk : List Int}
/-- no tie is left: all is sorted -/
theorem suf_done (hK : KeyCmp p.length (pre p L) cf) (hp : l.Perm (List.range p.length)) (hs : Sorted cf l) (hr : Ranks cf l rk) (hd : ∀ i ∈ l, l.getD (rk.getD i 0).toNat 0 = i) : IsSuf p l := by
  have hl : l.length = p.length := by rw [hp.length_eq, List.length_range]
  have fix : ∀ k, k < l.length → rkAt cf l k = k := fun k hk => by
    have hm : l.getD k 0 ∈ l := by rw [List.getD_eq_getElem?_getD, List.getElem?_eq_getElem hk]; exact List.getElem_mem _
    have h1 := hd _ hm
    rw [hr.2 k hk, Int.toNat_natCast] at h1
    have := rkAt_le (cf := cf) (l := l) k
    exact perm_inj hp (by omega) (by omega) h1
  refine ⟨hp, fun j k hjk hk => ?_⟩
  have b1 := perm_lt hp (show j < p.length by omega)
  have b2 := perm_lt hp (show k < p.length by omega)
  rcases rkAt_key hK hp hs k j (by omega) (by omega) with ⟨_, h2⟩ | ⟨h1, _⟩
  · rw [fix j (by omega), fix k hk] at h2; omega
  · exact drop_of_pre h1 b1 b2
/-- a tie is left: there is more to come -/
theorem suf_more (hK : KeyCmp p.length (pre p L) cf) (hp : l.Perm (List.range p.length)) (hs : Sorted cf l) (hr : Ranks cf l rk) {i : Nat} (hi : i ∈ l) (hd : l.getD (rk.getD i 0).toNat 0 ≠ i) : L < p.length := by
  have hl : l.length = p.length := by rw [hp.length_eq, List.length_range]
  have hi' := List.mem_range.1 (hp.mem_iff.1 hi)
  obtain ⟨k, hk, rfl⟩ := perm_at hp hi'
  rw [hr.2 k (by omega), Int.toNat_natCast] at hd
  have hle := rkAt_le (cf := cf) (l := l) k
  have hne : rkAt cf l k ≠ k := fun e => hd (by rw [e])
  apply Decidable.byContradiction
  intro hL
  have key : ∀ k, k < p.length → rkAt cf l k = k := by
    intro k hk
    cases k with
    | zero => rfl
    | succ k =>
      rw [rkAt, if_neg]
      intro h0
      have b1 := perm_lt hp (show k < p.length by omega)
      have b2 := perm_lt hp hk
      have h1 := (hK.eq _ _ b1 b2).1 h0
      have h2 := congrArg List.length h1
      rw [pre_length, pre_length] at h2
      have := perm_inj hp (show k < p.length by omega) hk (by omega)
      omega
  exact hne (key k hk)
end
theorem suf_unique {p : List Int} {l l' : List Nat} (h : IsSuf p l) (h' : IsSuf p l') : l = l' := by
  have hp : l.Perm l' := h.1.trans h'.1.symm
  have pw : ∀ {m : List Nat}, IsSuf p m → m.Pairwise (fun a b => llt (p.drop a) (p.drop b) = true) := fun {m} hm => by
    rw [List.pairwise_iff_getElem]
    intro i j hi hj hij
    have := hm.2 i j hij hj
    rwa [List.getD_eq_getElem?_getD, List.getElem?_eq_getElem hi, List.getD_eq_getElem?_getD, List.getElem?_eq_getElem hj] at this
  exact hp.eq_of_pairwise (fun a b _ _ h1 h2 => by have := llt_asymm h1; rw [h2] at this; cases this) (pw h) (pw h')
end Go.J
