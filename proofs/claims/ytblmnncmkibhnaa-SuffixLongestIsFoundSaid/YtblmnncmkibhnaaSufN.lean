/-
  Plain facts on the longest parts of a list that occur at least so often: found along the order of the ends, and found by trying all lengths: no program stands here.
  Conditions: none.
-/
import Derived.Test.YtblmnncmkibhnaaSufM
namespace Go.J
open Go
section
variable {p : List Int}
def occ (p u : List Int) : Nat := (placesOf p u).length
/-- what the ends at the places a to a + c share -/
def win (p : List Int) (l : List Nat) (a : Nat) : Nat → Nat
  | 0 => p.length - l.getD a 0
  | c + 1 => min (win p l a c) (near p l (a + c + 1))
theorem win_le {l : List Nat} {a : Nat} : ∀ c, win p l a c ≤ p.length - l.getD a 0
  | 0 => Nat.le_refl _
  | c + 1 => by have := win_le (l := l) (a := a) c; rw [win]; omega
theorem win_iff {l : List Nat} (hp : l.Perm (List.range p.length)) {a m : Nat} : ∀ c, a + c < p.length → (m ≤ win p l a c ↔ ∀ j, j ≤ c → l.getD (a + j) 0 + m ≤ p.length ∧ pre p m (l.getD (a + j) 0) = pre p m (l.getD a 0))
  | 0, h => by
    have hb := perm_lt hp (show a < p.length by omega)
    rw [win]
    constructor
    · intro hm j hj
      obtain rfl : j = 0 := by omega
      exact ⟨by rw [Nat.add_zero]; omega, rfl⟩
    · intro hj
      have := (hj 0 (Nat.le_refl _)).1
      rw [Nat.add_zero] at this
      omega
  | c + 1, h => by
    have ih := win_iff hp (a := a) (m := m) c (by omega)
    have hn : near p l (a + c + 1) = lcp p (l.getD (a + c) 0) (l.getD (a + (c + 1)) 0) := by
      unfold near; rw [if_neg (by omega)]; rfl
    have hb := perm_lt hp (show a + (c + 1) < p.length by omega)
    have hb0 := perm_lt hp (show a + c < p.length by omega)
    have hl2 : lcp p (l.getD (a + c) 0) (l.getD (a + (c + 1)) 0) ≤ p.length - l.getD (a + (c + 1)) 0 := by
      have := lcp_le (p := p) (i := l.getD (a + (c + 1)) 0) (j := l.getD (a + c) 0); unfold lcp at *; rw [lcpL_symm]; exact this
    rw [win, hn]
    constructor
    · intro hm j hj
      have h1 : m ≤ win p l a c := by omega
      have h2 : m ≤ lcp p (l.getD (a + c) 0) (l.getD (a + (c + 1)) 0) := by omega
      rcases Nat.lt_or_ge c j with q | q
      · obtain rfl : j = c + 1 := by omega
        exact ⟨by omega, by rw [← (lcp_pre m h2).1, (ih.1 h1 c (Nat.le_refl _)).2]⟩
      · exact ih.1 h1 j q
    · intro hj
      have h1 := ih.2 fun j q => hj j (by omega)
      have h2 := hj c (by omega)
      have h3 := hj (c + 1) (Nat.le_refl _)
      have := pre_lcp m h2.1 h3.1 (by rw [h2.2, h3.2])
      omega
theorem getD_mem {l : List Nat} {k : Nat} (h : k < l.length) : l.getD k 0 ∈ l := by
  rw [List.getD_eq_getElem?_getD, List.getElem?_eq_getElem h]; exact List.getElem_mem h
theorem win_occ {l : List Nat} (hp : l.Perm (List.range p.length)) {a m c : Nat} (hc : a + c < p.length) (h : m ≤ win p l a c) : c + 1 ≤ occ p (pre p m (l.getD a 0)) := by
  have hll : l.length = p.length := by rw [hp.length_eq, List.length_range]
  have hw := (win_iff hp c hc).1 h
  have hl : (pre p m (l.getD a 0)).length = m := by
    have := (hw 0 (Nat.zero_le _)).1; rw [Nat.add_zero] at this; rw [pre_length]; omega
  unfold occ placesOf
  rw [← (hp.filter (fun i => decide (pre p (pre p m (l.getD a 0)).length i = pre p m (l.getD a 0)))).length_eq, hl]
  have hsub : ((l.drop a).take (c + 1)).Sublist l := (List.take_sublist _ _).trans (List.drop_sublist _ _)
  have hf : ((l.drop a).take (c + 1)).filter (fun i => decide (pre p m i = pre p m (l.getD a 0))) = (l.drop a).take (c + 1) := by
    rw [List.filter_eq_self]
    intro i hi
    obtain ⟨k, hk, he⟩ := List.mem_iff_getElem.1 hi
    rw [List.length_take, List.length_drop] at hk
    rw [List.getElem_take, List.getElem_drop] at he
    have h2 := (hw k (by omega)).2
    rw [List.getD_eq_getElem?_getD, List.getElem?_eq_getElem (show a + k < l.length by omega), Option.getD_some, he] at h2
    exact decide_eq_true h2
  have h3 := (hsub.filter (fun i => decide (pre p m i = pre p m (l.getD a 0)))).length_le
  rw [hf, List.length_take, List.length_drop] at h3
  omega
theorem occ_win {l : List Nat} (hs : IsSuf p l) {v : List Int} {c : Nat} (hv : v ≠ []) (h : c + 1 ≤ occ p v) : ∃ a, a + c < p.length ∧ v.length ≤ win p l a c ∧ pre p v.length (l.getD a 0) = v := by
  have hp := hs.1
  have hll : l.length = p.length := by rw [hp.length_eq, List.length_range]
  obtain ⟨hab, hb, hperm⟩ := places_cut (part := v) hs rfl rfl
  generalize (List.range l.length).countP (fun k => !(!llt (pre p v.length (l.getD k 0)) v)) = a at hab hperm
  generalize (List.range l.length).countP (fun k => !(llt v (pre p v.length (l.getD k 0)))) = b at hab hb hperm
  have hlen := hperm.length_eq
  unfold occ at h
  rw [← hlen, List.length_take, List.length_drop] at h
  have hin : ∀ j, j ≤ c → pre p v.length (l.getD (a + j) 0) = v := by
    intro j hj
    have hm : l.getD (a + j) 0 ∈ (l.drop a).take (b - a) := by
      rw [List.getD_eq_getElem?_getD, List.getElem?_eq_getElem (show a + j < l.length by omega), Option.getD_some]
      refine List.mem_iff_getElem.2 ⟨j, by rw [List.length_take, List.length_drop]; omega, ?_⟩
      rw [List.getElem_take, List.getElem_drop]
    have := hperm.mem_iff.1 hm
    unfold placesOf at this
    exact of_decide_eq_true (List.mem_filter.1 this).2
  have hac : a + c < p.length := by omega
  have h0 := hin 0 (Nat.zero_le _)
  rw [Nat.add_zero] at h0
  refine ⟨a, hac, (win_iff hp c hac).2 fun j hj => ?_, h0⟩
  have h1 := hin j hj
  have hb := perm_lt hp (show a + j < p.length by omega)
  have h2 := congrArg List.length h1
  rw [pre_length] at h2
  exact ⟨by omega, by rw [h1, h0]⟩
/-- u is the smallest of the longest parts that occur at least t times -/
def Lgst (p : List Int) (t : Nat) (u : List Int) : Prop :=
  (u = [] ∧ ∀ v, v ≠ [] → occ p v < t) ∨ (u ≠ [] ∧ t ≤ occ p u ∧ ∀ v, u.length ≤ v.length → t ≤ occ p v → v.length = u.length ∧ llt v u = false)
theorem Lgst.unique {t : Nat} {u u' : List Int} (h : Lgst p t u) (h' : Lgst p t u') : u = u' := by
  rcases h with ⟨rfl, h1⟩ | ⟨h0, h1, h2⟩ <;> rcases h' with ⟨rfl, k1⟩ | ⟨k0, k1, k2⟩
  · rfl
  · have := h1 _ k0; omega
  · have := k1 _ h0; omega
  · have hl : u'.length = u.length := by
      rcases Nat.le_total u.length u'.length with q | q
      · exact (h2 _ q k1).1
      · exact (k2 _ q h1).1.symm
    have a1 := (h2 u' (by omega) k1).2
    have a2 := (k2 u (by omega) h1).2
    rcases llt_tri u u' with q | q | q
    · rw [a2] at q; cases q
    · exact q
    · rw [a1] at q; cases q
section walk
variable {l : List Nat} {t k : Nat} {b : List Int}
def wn (p : List Int) (l : List Nat) (t j : Nat) : Nat := win p l (j + 1 - t) (t - 1)
def wa (l : List Nat) (t j : Nat) : Nat := l.getD (j + 1 - t) 0
def LgI (p : List Int) (l : List Nat) (t k : Nat) (b : List Int) : Prop :=
  (b = [] ∧ ∀ j, j < k → t ≤ j + 1 → wn p l t j = 0) ∨
  (∃ j0, j0 < k ∧ t ≤ j0 + 1 ∧ b = pre p (wn p l t j0) (wa l t j0) ∧ 0 < wn p l t j0 ∧ ∀ j, j < k → t ≤ j + 1 → wn p l t j ≤ wn p l t j0 ∧ (wn p l t j = wn p l t j0 → j0 ≤ j))
theorem wn_le (j : Nat) : wn p l t j ≤ p.length - wa l t j := win_le _
theorem wn_len (j : Nat) : (pre p (wn p l t j) (wa l t j)).length = wn p l t j := by
  have := wn_le (p := p) (l := l) (t := t) j; rw [pre_length]; omega
theorem LgI.zero : LgI p l t 0 [] := .inl ⟨rfl, fun j hj => absurd hj (Nat.not_lt_zero j)⟩
theorem LgI.skip (h : LgI p l t k b) (hk : k + 1 < t) : LgI p l t (k + 1) b := by
  rcases h with ⟨h1, h2⟩ | ⟨j0, h1, h2, h3, h4, h5⟩
  · exact .inl ⟨h1, fun j hj ht => h2 j (by omega) ht⟩
  · omega
theorem LgI.len (h : LgI p l t k b) : ∀ j, j < k → t ≤ j + 1 → wn p l t j ≤ b.length := by
  rcases h with ⟨h1, h2⟩ | ⟨j0, h1, h2, h3, h4, h5⟩
  · intro j hj ht; rw [h2 j hj ht]; exact Nat.zero_le _
  · intro j hj ht; rw [h3, wn_len]; exact (h5 j hj ht).1
theorem LgI.more (h : LgI p l t k b) (hk : t ≤ k + 1) (hb : b.length < wn p l t k) : LgI p l t (k + 1) (pre p (wn p l t k) (wa l t k)) := by
  refine .inr ⟨k, by omega, hk, rfl, by omega, fun j hj ht => ?_⟩
  rcases Nat.lt_or_ge j k with q | q
  · have := h.len j q ht
    exact ⟨by omega, fun e => by omega⟩
  · obtain rfl : j = k := by omega
    exact ⟨Nat.le_refl _, fun _ => Nat.le_refl _⟩
theorem LgI.stay (h : LgI p l t k b) (hk : t ≤ k + 1) (hb : wn p l t k ≤ b.length) : LgI p l t (k + 1) b := by
  rcases h with ⟨h1, h2⟩ | ⟨j0, h1, h2, h3, h4, h5⟩
  · refine .inl ⟨h1, fun j hj ht => ?_⟩
    rcases Nat.lt_or_ge j k with q | q
    · exact h2 j q ht
    · obtain rfl : j = k := by omega
      rw [h1] at hb; exact Nat.le_zero.1 hb
  · refine .inr ⟨j0, by omega, h2, h3, h4, fun j hj ht => ?_⟩
    rcases Nat.lt_or_ge j k with q | q
    · exact h5 j q ht
    · obtain rfl : j = k := by omega
      rw [h3, wn_len] at hb
      exact ⟨hb, fun _ => by omega⟩
theorem LgI.done (hs : IsSuf p l) (ht1 : 1 ≤ t) (h : LgI p l t p.length b) : Lgst p t b := by
  have hll : l.length = p.length := by rw [hs.1.length_eq, List.length_range]
  have key : ∀ v, v ≠ [] → t ≤ occ p v → ∃ j, j < p.length ∧ t ≤ j + 1 ∧ v.length ≤ wn p l t j ∧ pre p v.length (wa l t j) = v := by
    intro v hv ho
    obtain ⟨a, h1, h2, h3⟩ := occ_win hs (c := t - 1) hv (by omega)
    refine ⟨a + (t - 1), h1, by omega, ?_, ?_⟩
    · unfold wn; rw [show a + (t - 1) + 1 - t = a by omega]; exact h2
    · unfold wa; rw [show a + (t - 1) + 1 - t = a by omega]; exact h3
  rcases h with ⟨h1, h2⟩ | ⟨j0, h1, h2, h3, h4, h5⟩
  · refine .inl ⟨h1, fun v hv => ?_⟩
    apply Decidable.byContradiction
    intro hn
    obtain ⟨j, k1, k2, k3, _⟩ := key v hv (by omega)
    rw [h2 j k1 k2] at k3
    exact hv (List.eq_nil_of_length_eq_zero (by omega))
  · have hbl : b.length = wn p l t j0 := by rw [h3, wn_len]
    refine .inr ⟨fun e => by rw [e, List.length_nil] at hbl; omega, ?_, fun v hv ho => ?_⟩
    · have := win_occ hs.1 (a := j0 + 1 - t) (c := t - 1) (m := wn p l t j0) (by omega) (Nat.le_refl _)
      rw [h3]
      unfold wa
      omega
    · have hv0 : v ≠ [] := fun e => by rw [e, List.length_nil] at hv; omega
      obtain ⟨j, k1, k2, k3, k4⟩ := key v hv0 ho
      have h6 := h5 j k1 k2
      have hvl : v.length = b.length := by omega
      refine ⟨hvl, ?_⟩
      have h7 := h6.2 (by omega)
      rw [← k4, h3, hvl, hbl]
      rcases Nat.lt_or_ge j0 j with q | q
      · exact pre_mono (hs.2 (j0 + 1 - t) (j + 1 - t) (by omega) (by omega))
      · obtain rfl : j0 = j := by omega
        exact llt_irrefl _
end walk
section ref
variable {t m i : Nat} {b : List Int}
theorem occ_ex {v : List Int} (h : 0 < occ p v) (hv : v ≠ []) : ∃ i, i + v.length ≤ p.length ∧ pre p v.length i = v := by
  unfold occ at h
  obtain ⟨i, hi⟩ := List.exists_mem_of_length_pos h
  have h1 := placesOf_lt hi
  have h2 : pre p v.length i = v := of_decide_eq_true (List.mem_filter.1 hi).2
  have h3 := congrArg List.length h2
  rw [pre_length] at h3
  exact ⟨i, by omega, h2⟩
/-- no part that is longer occurs so often -/
def NoMore (p : List Int) (t m : Nat) : Prop := ∀ v : List Int, m < v.length → occ p v < t
def RpI (p : List Int) (t m i : Nat) (b : List Int) : Prop :=
  (b = [] ∧ ∀ j, j < i → occ p (pre p m j) < t) ∨ (b ≠ [] ∧ b.length = m ∧ t ≤ occ p b ∧ ∀ j, j < i → t ≤ occ p (pre p m j) → llt (pre p m j) b = false)
theorem NoMore.top (ht : 1 ≤ t) : NoMore p t p.length := by
  intro v hv
  apply Decidable.byContradiction
  intro hn
  obtain ⟨i, hi, _⟩ := occ_ex (p := p) (v := v) (by omega) (fun e => by rw [e] at hv; simp at hv)
  omega
theorem RpI.zero : RpI p t m 0 [] := .inl ⟨rfl, fun j hj => absurd hj (Nat.not_lt_zero j)⟩
theorem RpI.take (h : RpI p t m i b) (hm : 0 < m) (hi : i + m ≤ p.length) (hc : (b = [] ∨ llt (pre p m i) b = true) ∧ t ≤ occ p (pre p m i)) : RpI p t m (i + 1) (pre p m i) := by
  have hl : (pre p m i).length = m := by rw [pre_length]; omega
  refine .inr ⟨fun e => by rw [e, List.length_nil] at hl; omega, hl, hc.2, fun j hj ho => ?_⟩
  rcases Nat.lt_or_ge j i with q | q
  · rcases h with ⟨h1, h2⟩ | ⟨h1, h2, h3, h4⟩
    · have := h2 j q; omega
    · rcases hc.1 with e | e
      · exact absurd e h1
      · have h5 := h4 j q ho
        cases hx : llt (pre p m j) (pre p m i) with
        | false => rfl
        | true => rw [llt_trans hx e] at h5; cases h5
  · obtain rfl : j = i := by omega
    exact llt_irrefl _
theorem RpI.stay (h : RpI p t m i b) (hc : ¬ ((b = [] ∨ llt (pre p m i) b = true) ∧ t ≤ occ p (pre p m i))) : RpI p t m (i + 1) b := by
  rcases h with ⟨h1, h2⟩ | ⟨h1, h2, h3, h4⟩
  · refine .inl ⟨h1, fun j hj => ?_⟩
    rcases Nat.lt_or_ge j i with q | q
    · exact h2 j q
    · obtain rfl : j = i := by omega
      apply Decidable.byContradiction
      intro hn
      exact hc ⟨.inl h1, by omega⟩
  · refine .inr ⟨h1, h2, h3, fun j hj ho => ?_⟩
    rcases Nat.lt_or_ge j i with q | q
    · exact h4 j q ho
    · obtain rfl : j = i := by omega
      cases hx : llt (pre p m j) b with
      | false => rfl
      | true => exact absurd ⟨.inr hx, ho⟩ hc
theorem RpI.found (h : RpI p t m i b) (ht : 1 ≤ t) (hN : NoMore p t m) (hi : p.length < i + m) (hb : b ≠ []) : Lgst p t b := by
  rcases h with ⟨h1, h2⟩ | ⟨h1, h2, h3, h4⟩
  · exact absurd h1 hb
  · refine .inr ⟨h1, h3, fun v hv ho => ?_⟩
    have hv2 : v.length = m := by
      apply Decidable.byContradiction
      intro hn
      have := hN v (by omega)
      omega
    refine ⟨by omega, ?_⟩
    obtain ⟨j, hj, he⟩ := occ_ex (p := p) (v := v) (by omega) (fun e => by rw [e, List.length_nil] at hv2; exact h1 (List.eq_nil_of_length_eq_zero (by omega)))
    rw [hv2] at he
    have := h4 j (by omega) (by rw [he]; exact ho)
    rw [he] at this
    exact this
theorem RpI.less (h : RpI p t m i []) (ht : 1 ≤ t) (hN : NoMore p t m) (hm : 0 < m) (hi : p.length < i + m) : NoMore p t (m - 1) := by
  intro v hv
  rcases Nat.lt_or_ge m v.length with q | q
  · exact hN v q
  · have hv2 : v.length = m := by omega
    rcases h with ⟨_, h2⟩ | ⟨h1, _⟩
    · apply Decidable.byContradiction
      intro hn
      obtain ⟨j, hj, he⟩ := occ_ex (p := p) (v := v) (by omega) (fun e => by rw [e, List.length_nil] at hv2; omega)
      rw [hv2] at he hj
      have := h2 j (by omega)
      rw [he] at this
      omega
    · exact absurd rfl h1
theorem NoMore.end (h : NoMore p t 0) : Lgst p t [] := .inl ⟨rfl, fun v hv => h v (List.length_pos_iff.2 hv)⟩
theorem RpI.len (h : RpI p t m i b) : b.length = 0 ∨ b.length = m := by
  rcases h with ⟨h1, _⟩ | ⟨_, h2, _⟩
  · rw [h1]; exact .inl rfl
  · exact .inr h2
theorem Lgst.occ_ge {u : List Int} (h : Lgst p t u) (hu : u ≠ []) : t ≤ occ p u := by
  rcases h with ⟨h1, _⟩ | ⟨_, h2, _⟩
  · exact absurd h1 hu
  · exact h2
end ref
end
open Classical in
noncomputable def lgOf (p : List Int) (t : Nat) : List Int := if h : ∃ u, Lgst p t u then Classical.choose h else []
theorem lgOf_eq {p : List Int} {t : Nat} {u : List Int} (h : Lgst p t u) : u = lgOf p t := by
  unfold lgOf
  rw [dif_pos ⟨u, h⟩]
  exact h.unique (Classical.choose_spec (⟨u, h⟩ : ∃ u, Lgst p t u))
theorem Lgst.le {p : List Int} {t : Nat} {u : List Int} (h : Lgst p t u) (ht : 1 ≤ t) : u.length ≤ p.length := by
  rcases h with ⟨h1, _⟩ | ⟨h1, h2, _⟩
  · rw [h1]; exact Nat.zero_le _
  · obtain ⟨i, hi, _⟩ := occ_ex (p := p) (v := u) (by omega) h1
    omega
end Go.J
