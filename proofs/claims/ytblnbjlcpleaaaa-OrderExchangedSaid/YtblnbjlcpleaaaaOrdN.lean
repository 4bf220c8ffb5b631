/-
  All permutations in the order of the alphabet: each is the next of the one before.
  Conditions: none.
-/
import Derived.Test.YtblnbjlcpleaaaaOrdV
set_option linter.unusedSimpArgs false
namespace Go.J
/-- the next permutation in the order of the alphabet -/
def nextR : List Int → Option (List Int)
  | [] => none
  | x :: t => match nextR t with
    | some t' => some (x :: t')
    | none => match t with
      | [] => none
      | h :: _ => if h < x then none else
        some (t.getD ((t.takeWhile fun y => decide (x ≤ y)).length - 1) 0 :: (t.set ((t.takeWhile fun y => decide (x ≤ y)).length - 1) x).reverse)

theorem nextR_some {x : Int} {t t' : List Int} (h : nextR t = some t') : nextR (x :: t) = some (x :: t') := by simp only [nextR, h]
theorem nextR_desc : ∀ {t : List Int}, t.Pairwise (· > ·) → nextR t = none
  | [], _ => rfl
  | [x], _ => rfl
  | x :: y :: t, h => by
    have h1 := List.pairwise_cons.1 h
    have h2 := nextR_desc h1.2
    have h3 := h1.1 y (List.mem_cons_self ..)
    unfold nextR
    rw [h2]
    simp only
    rw [if_pos h3]
theorem takeWhile_all {α : Type} {p : α → Bool} : ∀ {a : List α} {b : List α}, (∀ x ∈ a, p x = true) → (∀ x, b.head? = some x → p x = false) → (a ++ b).takeWhile p = a
  | [], [], _, _ => rfl
  | [], y :: b, _, h => by simp [List.takeWhile_cons, h y rfl]
  | x :: a, b, h, h2 => by
    rw [List.cons_append, List.takeWhile_cons, if_pos (h x (List.mem_cons_self ..)), takeWhile_all (fun y hy => h y (List.mem_cons_of_mem _ hy)) h2]

theorem nextR_step {Q T : List Int} {x y : Int} (h : (Q ++ x :: y :: T).Pairwise (· < ·)) : nextR (x :: (Q ++ y :: T).reverse) = some (y :: (Q ++ x :: T)) := by
  have h0 := List.pairwise_append.1 h
  have hx := List.pairwise_cons.1 h0.2.1
  have hy := List.pairwise_cons.1 hx.2
  have hd : ((Q ++ y :: T).reverse).Pairwise (· > ·) := by
    rw [List.pairwise_reverse]
    refine (List.pairwise_append.2 ⟨h0.1, hx.2, fun a ha b hb => h0.2.2 a ha b (List.mem_cons_of_mem _ hb)⟩).imp ?_
    intro a b hab; exact hab
  have hn := nextR_desc hd
  have e1 : (Q ++ y :: T).reverse = (T.reverse ++ [y]) ++ Q.reverse := by simp
  have htw : ((Q ++ y :: T).reverse.takeWhile fun z => decide (x ≤ z)) = T.reverse ++ [y] := by
    rw [e1]
    refine takeWhile_all (fun z hz => ?_) (fun z hz => ?_)
    · rcases List.mem_append.1 hz with hz | hz
      · have := hx.1 z (List.mem_cons_of_mem _ (List.mem_reverse.1 hz)); simp; omega
      · obtain rfl := List.mem_singleton.1 hz
        have := hx.1 z (List.mem_cons_self ..); simp; omega
    · have hz' : z ∈ Q := List.mem_reverse.1 (List.mem_of_head? hz)
      have := h0.2.2 z hz' x (List.mem_cons_self ..)
      simp; omega
  have hlen : (T.reverse ++ [y]).length - 1 = T.length := by simp
  have hget : (Q ++ y :: T).reverse.getD T.length 0 = y := by
    rw [e1, List.append_assoc]; simp [List.getD_eq_getElem?_getD]
  have hset : ((Q ++ y :: T).reverse.set T.length x).reverse = Q ++ x :: T := by
    rw [e1, List.append_assoc, List.set_append_right _ _ (by simp)]
    simp
  unfold nextR
  rw [hn]
  generalize hg : (Q ++ y :: T).reverse = t at *
  cases t with
  | nil => simp at hg
  | cons h1 t1 =>
    simp only
    have hh : ¬ h1 < x := by
      have : h1 ∈ T.reverse ++ [y] := by
        rw [← htw]
        have := e1
        cases hT : T.reverse with
        | nil =>
          rw [hT] at e1 htw; simp at e1
          rw [htw]; simp [e1.1]
        | cons a b =>
          rw [hT] at e1 htw; simp at e1
          rw [htw]; simp [e1.1]
      rcases List.mem_append.1 this with hz | hz
      · have := hx.1 h1 (List.mem_cons_of_mem _ (List.mem_reverse.1 hz)); omega
      · obtain rfl := List.mem_singleton.1 hz
        have := hx.1 h1 (List.mem_cons_self ..); omega
    rw [if_neg hh, htw, hlen, hget, hset]

/-- each is the next of the one before; the last one is d -/
def Chain : List (List Int) → List Int → Prop
  | [], _ => False
  | [a], d => a = d
  | a :: b :: r, d => nextR a = some b ∧ Chain (b :: r) d
theorem Chain.append : ∀ {L : List (List Int)} {d b e : List Int} {r : List (List Int)}, Chain L d → nextR d = some b → Chain (b :: r) e → Chain (L ++ b :: r) e
  | [], _, _, _, _, h, _, _ => h.elim
  | [a], d, b, e, r, h, h1, h2 => by
    have h : a = d := h
    subst h; exact ⟨h1, h2⟩
  | a :: a2 :: L, d, b, e, r, h, h1, h2 => ⟨h.1, Chain.append (L := a2 :: L) h.2 h1 h2⟩
theorem Chain.map (x : Int) : ∀ {L : List (List Int)} {d : List Int}, Chain L d → Chain (L.map (x :: ·)) (x :: d)
  | [], _, h => h.elim
  | [a], d, h => by
    have h : a = d := h
    subst h; exact rfl
  | a :: b :: L, d, h => ⟨nextR_some h.1, Chain.map x (L := b :: L) h.2⟩

/-- all permutations of S, of m elements, in the order of the alphabet -/
def permsF : Nat → List Int → List (List Int)
  | 0, _ => [[]]
  | m + 1, S => S.flatMap fun x => (permsF m (S.erase x)).map (x :: ·)

theorem erase_mid {Q R : List Int} {x : Int} (h : (Q ++ x :: R).Pairwise (· < ·)) : (Q ++ x :: R).erase x = Q ++ R := by
  have h0 := List.pairwise_append.1 h
  rw [List.erase_append_right _ (fun hx => by have := h0.2.2 x hx x (List.mem_cons_self ..); omega), List.erase_cons_head]
theorem perms_chain : ∀ (m : Nat) (S : List Int), S.Pairwise (· < ·) → S.length = m → (∃ r, permsF m S = S :: r) ∧ Chain (permsF m S) S.reverse
  | 0, S, _, h => by
    obtain rfl := List.eq_nil_of_length_eq_zero h
    exact ⟨⟨[], rfl⟩, rfl⟩
  | m + 1, S, hS, h => by
    have key : ∀ (T Q : List Int) (x : Int), S = Q ++ x :: T → (∃ r, ((x :: T).flatMap fun x => (permsF m (S.erase x)).map (x :: ·)) = (x :: (Q ++ T)) :: r) ∧ Chain ((x :: T).flatMap fun x => (permsF m (S.erase x)).map (x :: ·)) S.reverse := by
      intro T
      induction T with
      | nil =>
        intro Q x e
        have he : S.erase x = Q ++ [] := by rw [e] at hS ⊢; exact erase_mid hS
        rw [List.append_nil] at he
        have hQ : Q.Pairwise (· < ·) := by rw [e] at hS; exact (List.pairwise_append.1 hS).1
        have hl : Q.length = m := by rw [e] at h; simp at h; omega
        obtain ⟨⟨r, hr⟩, hc⟩ := perms_chain m Q hQ hl
        simp only [List.flatMap_cons, List.flatMap_nil, List.append_nil, he]
        refine ⟨⟨r.map (x :: ·), by rw [hr]; rfl⟩, ?_⟩
        have := hc.map x
        rw [e]; simpa using this
      | cons y T ih =>
        intro Q x e
        have he : S.erase x = Q ++ y :: T := by rw [e] at hS ⊢; exact erase_mid hS
        have hQ : (Q ++ y :: T).Pairwise (· < ·) := by
          rw [← he]; exact hS.sublist (List.erase_sublist)
        have hl : (Q ++ y :: T).length = m := by rw [e] at h; simp at h ⊢; omega
        obtain ⟨⟨r, hr⟩, hc⟩ := perms_chain m _ hQ hl
        obtain ⟨⟨r2, hr2⟩, hc2⟩ := ih (Q ++ [x]) y (by rw [e]; simp)
        rw [List.flatMap_cons, he]
        refine ⟨⟨_, by rw [hr]; rfl⟩, ?_⟩
        rw [hr2] at hc2 ⊢
        refine (hc.map x).append ?_ hc2
        have := nextR_step (Q := Q) (T := T) (x := x) (y := y) (by rw [← e]; exact hS)
        rw [this]; simp
    match S, hS, h, key with
    | x :: T, hS, h, key =>
      obtain ⟨hr, hc⟩ := key T [] x rfl
      exact ⟨hr, hc⟩
theorem Chain.get : ∀ {L : List (List Int)} {d : List Int}, Chain L d → nextR d = none → ∀ (j : Nat) (a : List Int), L[j]? = some a → nextR a = L[j + 1]?
  | [], _, h, _, _, _, _ => h.elim
  | [a], d, h, hn, j, b, hb => by
    have h : a = d := h
    subst h
    cases j with
    | zero => simp at hb; subst hb; simpa using hn
    | succ j => simp at hb
  | a :: a2 :: L, d, h, hn, j, b, hb => by
    cases j with
    | zero => simp at hb; subst hb; simpa using h.1
    | succ j =>
      have := Chain.get (L := a2 :: L) h.2 hn j b (by simpa using hb)
      simpa using this

/-- what is left over of n elements -/
def restOf (n : Nat) (l : List Int) : List Int := ((List.range n).map fun (i : Nat) => (i : Int)).filter fun x => !(l.any fun y => decide (x = y))
theorem flatMap_filter {α β : Type} (p : α → Bool) (f : α → List β) : ∀ (l : List α), l.flatMap (fun x => if p x then [] else f x) = (l.filter fun x => !p x).flatMap f
  | [] => rfl
  | x :: l => by
    rw [List.flatMap_cons, flatMap_filter p f l, List.filter_cons]
    cases p x <;> simp
theorem restOf_asc (n : Nat) (l : List Int) : (restOf n l).Pairwise (· < ·) := by
  refine List.Pairwise.filter _ ?_
  rw [List.pairwise_map]
  exact List.pairwise_lt_range.imp (fun h => by omega)
theorem restOf_snoc (n : Nat) (l : List Int) (x : Int) : restOf n (l ++ [x]) = (restOf n l).erase x := by
  have hn : (restOf n l).Nodup := (restOf_asc n l).imp (fun h => by omega)
  rw [hn.erase_eq_filter]
  unfold restOf
  rw [List.filter_filter]
  refine List.filter_congr fun y _ => ?_
  by_cases h : y = x
  · subst h; simp
  · simp [h]
theorem leaves_perms (n : Nat) : ∀ (m : Nat) (l : List Int), leaves n m l = (permsF m (restOf n l)).map (l ++ ·)
  | 0, l => by simp [leaves, permsF]
  | m + 1, l => by
    have h1 : leaves n (m + 1) l = ((List.range n).map fun (i : Nat) => (i : Int)).flatMap fun x => if (l.any fun y => decide (x = y)) then [] else leaves n m (l ++ [x]) := by
      rw [List.flatMap_map]; rfl
    rw [h1, flatMap_filter]
    show (restOf n l).flatMap (fun x => leaves n m (l ++ [x])) = _
    rw [permsF, List.map_flatMap]
    congr 1
    funext x
    rw [leaves_perms n m, restOf_snoc, List.map_map]
    refine List.map_congr_left fun t _ => ?_
    simp
def iota (n : Nat) : List Int := (List.range n).map fun (i : Nat) => (i : Int)
theorem iota_len (n : Nat) : (iota n).length = n := by simp [iota]
theorem leaves_iota (n : Nat) : leaves n n [] = permsF n (iota n) := by
  rw [leaves_perms]
  have : restOf n [] = iota n := by simp [restOf, iota]
  rw [this]; simp
theorem iota_asc (n : Nat) : (iota n).Pairwise (· < ·) := by
  unfold iota
  rw [List.pairwise_map]
  exact List.pairwise_lt_range.imp (fun h => by omega)
theorem leaves_first (n : Nat) : (leaves n n [])[0]? = some (iota n) := by
  obtain ⟨⟨r, hr⟩, _⟩ := perms_chain n (iota n) (iota_asc n) (iota_len n)
  rw [leaves_iota, hr]; rfl
theorem leaves_next (n : Nat) (j : Nat) (a : List Int) (h : (leaves n n [])[j]? = some a) : nextR a = (leaves n n [])[j + 1]? := by
  obtain ⟨_, hc⟩ := perms_chain n (iota n) (iota_asc n) (iota_len n)
  rw [leaves_iota] at h ⊢
  exact hc.get (nextR_desc (by rw [List.pairwise_reverse]; exact (iota_asc n).imp (fun h => h))) j a h

/-- what the code of the reference's OrderAfter makes of a list: the two swapped, the rest read backwards -/
def revF (L : List Int) (s t : Nat) : List Int := (List.range L.length).map fun j => if s ≤ j ∧ (j < s + t ∨ L.length - 1 < j + t) then L.getD (s + (L.length - 1) - j) 0 else L.getD j 0
theorem revF_len (L : List Int) (s t : Nat) : (revF L s t).length = L.length := by simp [revF]
theorem revF_getD {L : List Int} {s t j : Nat} (hj : j < L.length) : (revF L s t).getD j 0 = if s ≤ j ∧ (j < s + t ∨ L.length - 1 < j + t) then L.getD (s + (L.length - 1) - j) 0 else L.getD j 0 := by
  simp only [revF, List.getD_eq_getElem?_getD, List.getElem?_map, List.getElem?_range hj, Option.map_some, Option.getD_some]
theorem ext_getD {a b : List Int} (h : a.length = b.length) (h2 : ∀ j, j < a.length → a.getD j 0 = b.getD j 0) : a = b := by
  apply List.ext_getElem h
  intro j h3 h4
  have := h2 j h3
  simpa only [List.getD_eq_getElem?_getD, List.getElem?_eq_getElem h3, List.getElem?_eq_getElem h4, Option.getD_some] using this
theorem set_getD {a : List Int} {k j : Nat} {x : Int} (hj : j < a.length) : (a.set k x).getD j 0 = if k = j then x else a.getD j 0 := by
  simp only [List.getD_eq_getElem?_getD, List.getElem?_set]
  by_cases h : k = j
  · subst h; simp [hj]
  · simp [h]
theorem revF_zero {L : List Int} {s : Nat} : revF L s 0 = L := by
  refine ext_getD (revF_len ..) fun j hj => ?_
  rw [revF_len] at hj
  rw [revF_getD hj, if_neg (by omega)]
theorem revF_step {L : List Int} {s t : Nat} (h : s + t < L.length - 1 - t) : ((revF L s t).set (s + t) ((revF L s t).getD (L.length - 1 - t) 0)).set (L.length - 1 - t) ((revF L s t).getD (s + t) 0) = revF L s (t + 1) := by
  refine ext_getD (by simp [revF_len]) fun j hj => ?_
  simp only [List.length_set, revF_len] at hj
  rw [set_getD (by simp [revF_len]; omega), set_getD (by simp [revF_len]; omega), revF_getD hj, revF_getD hj, revF_getD (by omega), revF_getD (by omega)]
  by_cases h1 : L.length - 1 - t = j
  · rw [if_pos h1, if_neg (by omega), if_pos (by omega)]; congr 1; omega
  · rw [if_neg h1]
    by_cases h2 : s + t = j
    · rw [if_pos h2, if_neg (by omega), if_pos (by omega)]; congr 1; omega
    · rw [if_neg h2]
      by_cases h3 : s ≤ j ∧ (j < s + t ∨ L.length - 1 < j + t)
      · rw [if_pos h3, if_pos (by omega)]
      · rw [if_neg h3, if_neg (by omega)]
theorem revF_end {L : List Int} {s t : Nat} (hs : s ≤ L.length) (h : L.length - 1 - t ≤ s + t) : revF L s t = L.take s ++ (L.drop s).reverse := by
  refine ext_getD (by simp [revF_len]; omega) fun j hj => ?_
  rw [revF_len] at hj
  rw [revF_getD hj]
  by_cases h1 : j < s
  · rw [if_neg (by omega)]
    simp only [List.getD_eq_getElem?_getD]
    rw [List.getElem?_append_left (by simp; omega), List.getElem?_take_of_lt h1]
  · have e : (L.take s ++ (L.drop s).reverse).getD j 0 = L.getD (s + (L.length - 1) - j) 0 := by
      simp only [List.getD_eq_getElem?_getD]
      rw [List.getElem?_append_right (by simp; omega), List.getElem?_reverse (by simp; omega), List.getElem?_drop]
      congr 2
      simp only [List.length_take, List.length_drop]; omega
    rw [e]
    by_cases h2 : j < s + t ∨ L.length - 1 < j + t
    · rw [if_pos ⟨by omega, h2⟩]
    · rw [if_neg (fun h => h2 h.2)]; congr 1; omega
theorem nextR_pre : ∀ (P t : List Int) (t' : List Int), nextR t = some t' → nextR (P ++ t) = some (P ++ t')
  | [], _, _, h => h
  | x :: P, t, t', h => nextR_some (nextR_pre P t t' h)
theorem nextR_at {x : Int} {D : List Int} {k : Nat} (hd : D.Pairwise (· > ·)) (hk : k < D.length) (hx : x ≤ D.getD k 0) (hlt : ∀ z ∈ D.drop (k + 1), z < x) : nextR (x :: D) = some (D.getD k 0 :: (D.set k x).reverse) := by
  have hn := nextR_desc hd
  have hkx : D[k]? = some (D.getD k 0) := by rw [List.getD_eq_getElem?_getD, List.getElem?_eq_getElem hk]; rfl
  have hge : ∀ z ∈ D.take (k + 1), x ≤ z := by
    intro z hz
    obtain ⟨j, hj⟩ := List.getElem?_of_mem hz
    have hjl : j < k + 1 := by have := (List.getElem?_eq_some_iff.1 hj).1; simp at this; omega
    rw [List.getElem?_take_of_lt hjl] at hj
    obtain ⟨h1, h2⟩ := List.getElem?_eq_some_iff.1 hj
    rcases Nat.lt_or_ge j k with h3 | h3
    · have h4 := List.pairwise_iff_getElem.1 hd j k h1 hk h3
      obtain ⟨h5, h6⟩ := List.getElem?_eq_some_iff.1 hkx
      rw [h2, h6] at h4; omega
    · obtain rfl : j = k := by omega
      have := getD_of_some (d := 0) hj; omega
  have htw : D.takeWhile (fun z => decide (x ≤ z)) = D.take (k + 1) := by
    have := takeWhile_all (p := fun z => decide (x ≤ z)) (a := D.take (k + 1)) (b := D.drop (k + 1)) (fun z hz => by simpa using hge z hz) (fun z hz => by
      have := hlt z (List.mem_of_head? hz); simp; omega)
    rwa [List.take_append_drop] at this
  unfold nextR
  rw [hn]
  cases D with
  | nil => simp at hk
  | cons h1 t1 =>
    simp only
    rw [if_neg (by have := hge h1 (by simp); omega), htw]
    have : (List.take (k + 1) (h1 :: t1)).length - 1 = k := by rw [List.length_take]; omega
    rw [this]

theorem desc_zero (l : List Int) : (l.drop (l.length - 1 - 0)).Pairwise (· > ·) := by
  have h : (l.drop (l.length - 1 - 0)).length ≤ 1 := by simp; omega
  match hd : l.drop (l.length - 1 - 0), h with
  | [], _ => exact .nil
  | [x], _ => simp
theorem drop_getD {l : List Int} {i : Nat} (h : i < l.length) : l.drop i = l.getD i 0 :: l.drop (i + 1) := drop_of_some (some_getD 0 h)
theorem desc_step {l : List Int} {i : Nat} (h : i + 1 < l.length) (hp : (l.drop (i + 1)).Pairwise (· > ·)) (hlt : l.getD (i + 1) 0 < l.getD i 0) : (l.drop i).Pairwise (· > ·) := by
  rw [drop_getD (show i < l.length by omega)]
  refine List.pairwise_cons.2 ⟨fun z hz => ?_, hp⟩
  rw [drop_getD h] at hp hz
  rcases List.mem_cons.1 hz with rfl | hz
  · exact hlt
  · have := (List.pairwise_cons.1 hp).1 z hz
    omega
theorem below_step {l : List Int} {x : Int} {k : Nat} (h : k < l.length) (hb : ∀ z ∈ l.drop (k + 1), z < x) (hlt : l.getD k 0 < x) : ∀ z ∈ l.drop k, z < x := by
  intro z hz
  rw [drop_getD h] at hz
  rcases List.mem_cons.1 hz with rfl | hz
  · exact hlt
  · exact hb z hz
/-- the two swapped -/
def swapI (l : List Int) (i k : Nat) : List Int := (l.set i (l.getD k 0)).set k (l.getD i 0)
theorem swapI_len (l : List Int) (i k : Nat) : (swapI l i k).length = l.length := by simp [swapI]
theorem next_of {l : List Int} {i k : Nat} (hik : i < k) (hk : k < l.length) (hd : (l.drop (i + 1)).Pairwise (· > ·)) (hx : l.getD i 0 ≤ l.getD k 0) (hb : ∀ z ∈ l.drop (k + 1), z < l.getD i 0) :
    nextR l = some ((swapI l i k).take (i + 1) ++ ((swapI l i k).drop (i + 1)).reverse) := by
  have hl : l = l.take i ++ (l.getD i 0 :: l.drop (i + 1)) := by rw [← drop_getD (by omega), List.take_append_drop]
  have hgk : (l.drop (i + 1)).getD (k - (i + 1)) 0 = l.getD k 0 := by
    simp only [List.getD_eq_getElem?_getD, List.getElem?_drop]; congr 2; omega
  have h1 := nextR_at (x := l.getD i 0) (D := l.drop (i + 1)) (k := k - (i + 1)) hd (by simp; omega) (by rw [hgk]; exact hx) (by rw [List.drop_drop, show i + 1 + (k - (i + 1) + 1) = k + 1 by omega]; exact hb)
  have h2 := nextR_pre (l.take i) _ _ h1
  rw [← hl, hgk] at h2
  rw [h2]
  have e1 : (swapI l i k).take (i + 1) = l.take i ++ [l.getD k 0] := by
    unfold swapI
    rw [List.take_set_of_le (by omega)]
    have : i < l.length := by omega
    apply List.ext_getElem?
    intro j
    by_cases hj : j < i
    · rw [List.getElem?_take_of_lt (by omega), List.getElem?_set_ne (by omega), List.getElem?_append_left (by simp; omega), List.getElem?_take_of_lt hj]
    · by_cases hj2 : j = i
      · subst hj2
        rw [List.getElem?_take_of_lt (by omega), List.getElem?_set_self (by omega), List.getElem?_append_right (by simp; omega)]
        simp [Nat.min_eq_left (Nat.le_of_lt this)]
      · rw [List.getElem?_eq_none (by simp; omega), List.getElem?_eq_none (by simp; omega)]
  have e2 : (swapI l i k).drop (i + 1) = (l.drop (i + 1)).set (k - (i + 1)) (l.getD i 0) := by
    unfold swapI
    rw [List.drop_set, if_neg (by omega), List.drop_set_of_lt (by omega)]
  rw [e1, e2]
  simp
end Go.J
