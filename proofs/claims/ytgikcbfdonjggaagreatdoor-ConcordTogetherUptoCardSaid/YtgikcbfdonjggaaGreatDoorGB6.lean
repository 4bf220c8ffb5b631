/-
  Several texts in one: YtgikcbfdonjggaaGreatDoorC11.
  Conditions: none.
-/
import Derived.Test.YtgikcbfdonjggaaGreatDoorGB5
import Derived.Test.YtgikcbfdonjggaaGreatDoorGB2
/-
  The laws of With, and of what is listed and counted.
  Conditions: none beyond the sizes.
-/
set_option maxRecDepth 20000
set_option linter.unusedSimpArgs false
set_option linter.unusedVariables false
namespace Go.Proofs.YtgikcbfdonjggaaGreatDoor
open Go Go.J

theorem snoc_ind {α} {P : List α → Prop} (h0 : P []) (hs : ∀ l x, P l → P (l ++ [x])) (l : List α) : P l := by
  have h : ∀ r : List α, P r.reverse := by
    intro r
    induction r with
    | nil => exact h0
    | cons x r ih => rw [List.reverse_cons]; exact hs _ _ ih
  have := h l.reverse
  rwa [List.reverse_reverse] at this
theorem known_ok {W : List Str} (hs : SSt W) {k : Nat} (hk : k < W.length) : (decide ((0 : Int) < (k : Nat)) && !(Op.bytesLess (W.getD (k - 1) []) (W.getD k []))) = false := by
  rcases Nat.eq_zero_or_pos k with rfl | h
  · rfl
  · have := sst_lt hs (some_getD [] (show k - 1 < W.length by omega)) (some_getD [] hk) (by omega)
    rw [this]; simp
theorem cnt_from {p : List Str} {i : Nat} {s : List Str} : ∀ {l : List (List Str)} {i0 : Nat}, i0 ≤ i → l[i - i0]? = some s → ((hitsFrom p i0 l).countP fun h => decide (h.1 = i)) = (hitsIn p 0 s).length
  | [], i0, _, h => by simp at h
  | x :: l, i0, hle, h => by
    rw [hitsFrom, List.countP_append]
    rcases Nat.lt_or_ge i0 i with q | q
    · rw [show i - i0 = (i - (i0 + 1)) + 1 by omega, List.getElem?_cons_succ] at h
      rw [cnt_from (by omega) h]
      have e : ((hitsIn p i0 x).countP fun h => decide (h.1 = i)) = 0 := by
        rw [List.countP_eq_zero]
        intro h hh
        obtain ⟨k, _, rfl⟩ := List.mem_map.1 hh
        simp; omega
      omega
    · obtain rfl : i = i0 := by omega
      rw [Nat.sub_self, List.getElem?_cons_zero, Option.some.injEq] at h
      subst h
      have e : ((hitsFrom p (i + 1) l).countP fun h => decide (h.1 = i)) = 0 := by
        rw [List.countP_eq_zero]
        intro h hh
        obtain ⟨_, h1, _⟩ := hitsFrom_mem hh
        simp; omega
      have e2 : ((hitsIn p i x).countP fun h => decide (h.1 = i)) = (hitsIn p 0 x).length := by
        rw [List.countP_eq_length.2 (by intro h hh; obtain ⟨k, _, rfl⟩ := List.mem_map.1 hh; simp)]
        simp [hitsIn]
      omega
theorem hits_one (s : List Str) (p : List Str) : hitsOf [s] p = hitsIn p 0 s := by simp [hitsOf, hitsFrom]
theorem cnt_one {l : List (List Str)} {w : Str} {i : Nat} {s : List Str} (hs : l[i]? = some s) : cntW l w i = (hitsOf [s] [w]).length := by
  rw [hits_one]; exact cnt_from (Nat.zero_le _) hs
theorem in_word {s : List Str} {w : Str} (h : w ∈ s) : (hitsIn [w] 0 s).length ≠ 0 := by
  obtain ⟨k, hk, he⟩ := List.mem_iff_getElem.1 h
  intro h0
  have h1 : (0, k) ∈ hitsIn [w] 0 s := by
    refine List.mem_map.2 ⟨k, List.mem_filter.2 ⟨List.mem_range.2 hk, ?_⟩, rfl⟩
    rw [standsAt_iff (by omega)]
    refine ⟨by simp only [List.length_singleton]; omega, fun j hj => ?_⟩
    obtain rfl : j = 0 := by simpa using hj
    rw [Nat.add_zero, List.getElem?_eq_getElem hk, he]; rfl
  rw [List.eq_nil_of_length_eq_zero h0] at h1; cases h1
theorem hits_ne {l : List (List Str)} {w : Str} (h : w ∈ wordsOf l) : (hitsOf l [w]).length ≠ 0 := by
  obtain ⟨s, hs, hw⟩ := (wordsOf_mem l w).1 h
  obtain ⟨i, hi, he⟩ := List.mem_iff_getElem.1 hs
  have h1 : l[i]? = some s := by rw [List.getElem?_eq_getElem hi, he]
  have h2 : cntW l w i = (hitsIn [w] 0 s).length := cnt_from (Nat.zero_le _) h1
  have h3 : cntW l w i ≤ (hitsOf l [w]).length := List.countP_le_length
  have := in_word hw
  omega
theorem corp_one {l : List (List Str)} (h : Corp l) {s : List Str} (hs : s ∈ l) : Corp [s] := ⟨by simp, fun x hx => by rw [List.mem_singleton.1 hx]; exact h.each s hs⟩
theorem want_step (l : List (List Str)) (ws : List Str) (i : Nat) : (List.range (i + 1)).filter (hasAll l ws) = (List.range i).filter (hasAll l ws) ++ if hasAll l ws i then [i] else [] := by
  rw [List.range_succ, List.filter_append]; cases h : hasAll l ws i <;> simp [h]
theorem want_t {l : List (List Str)} {ws : List Str} {i : Nat} (h : hasAll l ws i = true) : (List.range (i + 1)).filter (hasAll l ws) = (List.range i).filter (hasAll l ws) ++ [i] := by rw [want_step, if_pos h]
theorem want_f {l : List (List Str)} {ws : List Str} {i : Nat} (h : hasAll l ws i = false) : (List.range (i + 1)).filter (hasAll l ws) = (List.range i).filter (hasAll l ws) := by rw [want_step, h]; simp
/-- neighbours that are alike once -/
def dedN (l : List Nat) : List Nat := l.foldl (fun acc x => if acc.getLast? = some x then acc else acc ++ [x]) []
theorem ded_snoc (l : List Nat) (x : Nat) : dedN (l ++ [x]) = if (dedN l).getLast? = some x then dedN l else dedN l ++ [x] := by unfold dedN; rw [List.foldl_append]; rfl
theorem ded_last : ∀ (l : List Nat), (dedN l).getLast? = l.getLast? := by
  intro l
  induction l using snoc_ind with
  | h0 => rfl
  | hs l x ih =>
    rw [ded_snoc]
    split
    · rename_i h; rw [h]; simp
    · simp
theorem ded_spec : ∀ (l : List Nat), l.Pairwise (· ≤ ·) → (dedN l).Pairwise (· < ·) ∧ ∀ x, x ∈ dedN l ↔ x ∈ l := by
  intro l
  induction l using snoc_ind with
  | h0 => intro _; exact ⟨.nil, fun x => by simp [dedN]⟩
  | hs l x ih =>
    intro h
    have h1 := List.pairwise_append.1 h
    obtain ⟨h2, h3⟩ := ih h1.1
    have hle : ∀ y ∈ l, y ≤ x := fun y hy => h1.2.2 y hy x (by simp)
    rw [ded_snoc]
    split
    · rename_i hl
      have hx : x ∈ l := (h3 x).1 (List.mem_of_getLast? hl)
      refine ⟨h2, fun y => ?_⟩
      rw [h3, List.mem_append, List.mem_singleton]
      exact ⟨.inl, fun q => q.elim id fun e => e ▸ hx⟩
    · rename_i hl
      have hx : x ∉ l := by
        intro hx
        apply hl
        rw [ded_last]
        obtain ⟨a, b, rfl⟩ := List.append_of_mem hx
        cases hb : b.getLast? with
        | none =>
          rw [List.getLast?_eq_none_iff] at hb
          subst hb; simp
        | some z =>
          have hz : z ∈ b := List.mem_of_getLast? hb
          have q1 := hle z (List.mem_append_right _ (List.mem_cons_of_mem _ hz))
          have q2 := (List.pairwise_cons.1 (List.pairwise_append.1 h1.1).2.1).1 z hz
          obtain rfl : z = x := by omega
          rw [List.getLast?_append, List.getLast?_cons, hb]; rfl
      refine ⟨List.pairwise_append.2 ⟨h2, List.pairwise_singleton .., fun y hy z hz => ?_⟩, fun y => ?_⟩
      · rw [List.mem_singleton.1 hz]
        have hy' := (h3 y).1 hy
        have := hle y hy'
        have hne : y ≠ x := fun e => hx (e ▸ hy')
        omega
      · rw [List.mem_append, List.mem_append, h3]
theorem inc_unique : ∀ {X Y : List Nat}, X.Pairwise (· < ·) → Y.Pairwise (· < ·) → (∀ w, w ∈ X ↔ w ∈ Y) → X = Y
  | [], [], _, _, _ => rfl
  | [], y :: Y, _, _, h => by have := (h y).2 (List.mem_cons_self ..); cases this
  | x :: X, [], _, _, h => by have := (h x).1 (List.mem_cons_self ..); cases this
  | x :: X, y :: Y, hX, hY, h => by
    have h1 := List.pairwise_cons.1 hX
    have h2 := List.pairwise_cons.1 hY
    have exy : x = y := by
      rcases List.mem_cons.1 ((h x).1 (List.mem_cons_self ..)) with e | e
      · exact e
      · rcases List.mem_cons.1 ((h y).2 (List.mem_cons_self ..)) with f | f
        · exact f.symm
        · have q1 := h2.1 x e
          have q2 := h1.1 y f
          omega
    subst exy
    rw [inc_unique h1.2 h2.2 fun w => ⟨fun hw => by
      rcases List.mem_cons.1 ((h w).1 (List.mem_cons_of_mem _ hw)) with e | e
      · have := h1.1 w hw; omega
      · exact e, fun hw => by
      rcases List.mem_cons.1 ((h w).2 (List.mem_cons_of_mem _ hw)) with e | e
      · have := h2.1 w hw; omega
      · exact e⟩]
theorem hits_sorted (p : List Str) : ∀ (l : List (List Str)) (i : Nat), ((hitsFrom p i l).map Prod.fst).Pairwise (· ≤ ·)
  | [], _ => .nil
  | s :: l, i => by
    rw [hitsFrom, List.map_append]
    refine List.pairwise_append.2 ⟨?_, hits_sorted p l (i + 1), ?_⟩
    · refine List.pairwise_map.2 ?_
      unfold hitsIn
      refine List.pairwise_map.2 (List.pairwise_of_forall fun _ _ => Nat.le_refl _)
    · intro x hx y hy
      obtain ⟨h, hh, rfl⟩ := List.mem_map.1 hx
      obtain ⟨k, _, rfl⟩ := List.mem_map.1 hh
      obtain ⟨g, hg, rfl⟩ := List.mem_map.1 hy
      obtain ⟨_, h1, _⟩ := hitsFrom_mem hg
      show i ≤ g.1
      omega
theorem with_ded {l : List (List Str)} {w : Str} (hw : isWord w = true) : withL l [w] = dedN ((hitsOf l [w]).map Prod.fst) := by
  have hf : withF [w] = (0, 0) := by simp [withF, partFrom, hw]
  rw [withL_t (by rw [hf])]
  obtain ⟨h1, h2⟩ := ded_spec _ (show ((hitsOf l [w]).map Prod.fst).Pairwise (· ≤ ·) from hits_sorted [w] l 0)
  refine inc_unique (List.Pairwise.filter _ List.pairwise_lt_range) h1 fun i => ?_
  rw [h2, List.mem_filter, List.mem_range]
  have e : hasAll l [w] i = true ↔ i ∈ (hitsOf l [w]).map Prod.fst := by
    simp only [hasAll, List.all_cons, List.all_nil, Bool.and_true, Bool.not_eq_true', decide_eq_false_iff_not]
    unfold cntW
    rw [show (¬ (List.countP (fun h : Nat × Nat => decide (h.1 = i)) (hitsOf l [w])) = 0) = ((List.countP (fun h : Nat × Nat => decide (h.1 = i)) (hitsOf l [w])) ≠ 0) from rfl, ← Nat.pos_iff_ne_zero, List.countP_pos_iff]
    constructor
    · rintro ⟨h, hh, he⟩
      exact List.mem_map.2 ⟨h, hh, of_decide_eq_true he⟩
    · intro hh
      obtain ⟨g, hg, rfl⟩ := List.mem_map.1 hh
      exact ⟨g, hg, by simp⟩
  rw [e]
  constructor
  · rintro ⟨_, h⟩; exact h
  · intro h
    refine ⟨?_, h⟩
    obtain ⟨g, hg, rfl⟩ := List.mem_map.1 h
    obtain ⟨s, hs, _⟩ := hitsOf_mem hg
    exact lt_of_some hs
theorem last_iff {l : List Nat} {x : Nat} : l.getLast? = some x ↔ l.length ≠ 0 ∧ l.getD (l.length - 1) 0 = x := by
  rw [List.getLast?_eq_getElem?]
  rcases Nat.eq_zero_or_pos l.length with h | h
  · rw [List.getElem?_eq_none (by omega)]; simp [h]
  · rw [some_getD 0 (show l.length - 1 < l.length by omega), Option.some.injEq]
    exact ⟨fun q => ⟨by omega, q⟩, fun q => q.2⟩
theorem ded_t {l : List Nat} {k x : Nat} (hx : l[k]? = some x) (h : (dedN (l.take k)).length = 0 ∨ (dedN (l.take k)).getD ((dedN (l.take k)).length - 1) 0 ≠ x) : dedN (l.take (k + 1)) = dedN (l.take k) ++ [x] := by
  rw [take_of_some hx, ded_snoc, if_neg]
  rw [last_iff]
  rintro ⟨q1, q2⟩
  rcases h with h | h
  · exact q1 h
  · exact h q2
theorem ded_f {l : List Nat} {k x : Nat} (hx : l[k]? = some x) (h : (dedN (l.take k)).length ≠ 0 ∧ (dedN (l.take k)).getD ((dedN (l.take k)).length - 1) 0 = x) : dedN (l.take (k + 1)) = dedN (l.take k) := by
  rw [take_of_some hx, ded_snoc, if_pos (last_iff.2 h)]
theorem ded_len (l : List Nat) : (dedN l).length ≤ l.length := by
  induction l using snoc_ind with
  | h0 => exact Nat.le_refl _
  | hs l x ih =>
    rw [ded_snoc]
    split
    · rw [List.length_append]; omega
    · rw [List.length_append, List.length_append, List.length_singleton]; omega
theorem any_step {W : List Str} {m : Nat} {y w : Str} (hy : W[m]? = some y) : ((W.take m).any (fun y => y == w) || (y == w)) = (W.take (m + 1)).any (fun y => y == w) := (any_take_step hy rfl).symm

set_option maxHeartbeats 4000000 in
theorem law4_spec (v0 v1 : Value) (l : List (List Str)) (ws : List Str) : FnVw Tryz.prog 6 #[v0, v1] [nsl strR v0 l, sl strR v1 ws, u8] (.bool true) := by
  refine FnVw.body (args := [v0, v1]) (ds := [(nsl strR v0 l), (sl strR v1 ws), u8]) 180 Tryz.func6 rfl Tryz.ntmps6 rfl (fun c hdr => ?_)
  change St _ _ (Mm c [dat (nsl strR v0 l), dat (sl strR v1 ws), dat u8]) _
  refine St.seq ?_
  refine St.rg ?_
  refine St.ev _ (Ev.assign (Opd.mk rfl)) rfl ?_
  refine St.nil ?_
  refine St.then_normal ?_
  refine St.seq ?_
  refine St.seq ?_
  refine St.rg ?_
  refine St.ev _ (Ev.callW hdr ready_spec cb10 (Opds.nil)) rfl ?_
  refine St.ev _ (Ev.not (Opd.mk rfl)) rfl ?_
  refine St.nil ?_
  refine St.then_normal ?_
  refine St.condf _ rfl rfl ?_
  refine St.skip ?_
  refine St.then_normal ?_
  refine St.seq ?_
  refine St.rg ?_
  refine St.ev _ (Ev.move (Opd.mk rfl)) rfl ?_
  refine St.calldW hdr (Build_cspec v0 l) cb11 (Opds.cons (Opd.mk rfl) Opds.nil) rfl ?_
  rintro v23 _ ⟨vl, vw, vp, vo, vz, rfl, o1, o2, o3, o4, o5, rfl⟩
  refine St.app1 ?_
  have hcorp := okL_corp l
  refine St.ev _ (Ev.move (Opd.mk rfl)) rfl ?_
  refine St.ev _ (Ev.extract (Opd.mk rfl) rfl) rfl ?_
  refine St.ev _ (Ev.extract (Opd.mk rfl) rfl) rfl ?_
  refine St.alloc zc28 rfl (fun b5 => ?_)
  refine St.alloc zc30 rfl (fun b6 => ?_)
  refine St.storeA (Opd.mk rfl) (Opd.mk rfl) sz28 (by first | simp only [List.length_cons, List.length_nil] | rfl) (by simp [o1, o2, o3, o4, o5]) ?_
  refine St.storeA (Opd.mk rfl) (Opd.mk rfl) sz30 (by first | simp only [List.length_cons, List.length_nil] | rfl) rfl ?_
  refine St.nil ?_
  refine St.then_normal ?_
  refine St.seq ?_
  refine St.seq ?_
  refine St.rg ?_
  refine St.ev _ (Ev.fldb0 (Opd.mk rfl) fo30_0) rfl ?_
  refine St.ev _ (Ev.ldb (Opd.mk rfl) Tryz.underlying3 trivial (by rfl)) rfl ?_
  refine St.ev _ (Ev.neq (Opd.mk rfl) (Opd.mk rfl)) rfl ?_
  refine St.nil ?_
  refine St.then_normal ?_
  refine St.cond _ rfl (fun h28 => ?_) (fun h28 => ?_)
  · skip
    try simp only [Bool.and_true, Bool.true_and, decide_eq_true_eq, decide_eq_false_iff_not, Bool.and_eq_true, Bool.or_eq_true, Bool.and_eq_false_iff, Bool.or_eq_false_iff, Bool.not_eq_true', Bool.not_eq_false', beq_iff_eq, beq_eq_false_iff_ne, Int.not_lt, Int.not_le] at h28
    refine St.seq ?_
    refine St.rg ?_
    refine St.ev _ (Ev.assign (Opd.mk rfl)) rfl ?_
    refine St.nil ?_
    refine St.then_normal ?_
    refine St.rett ?_
    refine St.then_ret ?_
    refine St.rets [_] [] Tryz.results6 ⟨rfl, trivial⟩ ?_ (fun _ hw => hw.sub)
    exact be rfl
  · skip
    try simp only [Bool.and_true, Bool.true_and, decide_eq_true_eq, decide_eq_false_iff_not, Bool.and_eq_true, Bool.or_eq_true, Bool.and_eq_false_iff, Bool.or_eq_false_iff, Bool.not_eq_true', Bool.not_eq_false', beq_iff_eq, beq_eq_false_iff_ne, Int.not_lt, Int.not_le] at h28
    rw [okL_t (by omega)] at hcorp ⊢
    have hl100 := hcorp.len
    have hwl := wordsOf_len hcorp
    have hss := wordsOf_sst l
    refine St.openNs v0 (fun vs hvl => ?_)
    refine St.ptwWf vs hvl (fun hwfl => ?_)
    refine St.wf v1 (fun hwf1 hlen1 => ?_)
    refine St.skip ?_
    refine St.then_normal ?_
    refine St.seq ?_
    refine St.rg ?_
    refine St.ev _ (Ev.ldbA (Opd.mk rfl) Tryz.underlying28 trivial (by exact sz28)) rfl ?_
    refine St.calld (Words_spec vl vw vp vo vz l hcorp) cb19 (Opds.cons (Opd.mk rfl) Opds.nil) rfl ?_
    rintro v30 _ ⟨h30, rfl⟩
    refine St.app1 ?_
    refine St.publish v30 strR (wordsOf l) rfl rfl (fun w hw => by obtain ⟨s, hs, hw⟩ := (wordsOf_mem l w).1 hw; exact hwfl s hs w hw) ?_
    refine St.ev _ (Ev.assign (Opd.mk rfl)) rfl ?_
    refine St.nil ?_
    refine St.then_normal ?_
    refine St.seq ?_
    refine St.seq ?_
    refine St.rg ?_
    refine St.ev _ (Ev.assign (Opd.mk rfl)) rfl ?_
    refine St.nil ?_
    refine St.then_normal ?_
    refine St.block ?_
    refine St.loopS (ι := Nat) (fun k T => (8, iv k) :: T) (fun k => k ≤ (wordsOf l).length) (fun k => (wordsOf l).length - k) 0 (Keep.cons 0 rfl (Keep.cons 1 rfl (Keep.cons 5 rfl (Keep.cons 6 rfl (Keep.cons 7 rfl Keep.nil))))) (Nat.zero_le _) (by repeat (first | exact Sub.nil | refine Sub.cons (by first | rfl | exact congrArg (fun z => some (iv z)) (by first | omega | (dsimp only; omega)) | exact congrArg (fun z => some (Value.bool z)) (by first | assumption | exact Eq.symm (by assumption))) ?_)) ?_
    intro k hphi
    refine St.seq ?_
    refine St.seq ?_
    refine St.rg ?_
    refine St.ev _ (Ev.move (Opd.mk rfl)) rfl ?_
    refine St.ev _ (Ev.move (Opd.mk rfl)) rfl ?_
    refine St.ev _ (Ev.lensl (Opd.mk rfl) Tryz.underlying23) rfl ?_
    refine St.ev _ (Ev.lss (Opd.mk rfl) (Opd.mk rfl)) rfl ?_
    refine St.nil ?_
    refine St.then_normal ?_
    refine St.cond _ rfl (fun h34 => ?_) (fun h34 => ?_)
    · skip
      try simp only [Bool.and_true, Bool.true_and, decide_eq_true_eq, decide_eq_false_iff_not, Bool.and_eq_true, Bool.or_eq_true, Bool.and_eq_false_iff, Bool.or_eq_false_iff, Bool.not_eq_true', Bool.not_eq_false', beq_iff_eq, beq_eq_false_iff_ne, Int.not_lt, Int.not_le] at h34
      obtain ⟨w, hw⟩ := some_of_lt (show k < (wordsOf l).length by omega)
      have hwm := List.mem_of_getElem? hw
      have hww : strR.wf w := by obtain ⟨s, hs, hw⟩ := (wordsOf_mem l w).1 hwm; exact hwfl s hs w hw
      refine St.skip ?_
      refine St.then_normal ?_
      refine St.seq ?_
      refine St.block ?_
      refine St.seq ?_
      refine St.parL [] mixed ?_
      refine SW.defer 0 (by repeat (first | refine NP.then ?_ | refine NP.inBlock ?_ | exact NP.body)) (by kernel_rfl) rfl (fun R => Ev.move (Opd.mk rfl)) (by kernel_rfl) rfl ?_
      refine SW.defer 1 (by repeat (first | refine NP.then ?_ | refine NP.inBlock ?_ | exact NP.body)) (by kernel_rfl) rfl (fun R => Ev.gtr (Opd.mk rfl) (Opd.mk rfl)) (by kernel_rfl) rfl ?_
      refine SW.defer 2 (by repeat (first | refine NP.then ?_ | refine NP.inBlock ?_ | exact NP.body)) (by kernel_rfl) rfl (fun R => Ev.move (Opd.mk rfl)) (by kernel_rfl) rfl ?_
      refine SW.gt 3 _ (by repeat (first | refine NP.then ?_ | refine NP.inBlock ?_ | exact NP.body)) (by kernel_rfl) rfl rfl rfl (fun R hg => Ev.move (Opd.mk rfl)) (by kernel_rfl) rfl ?_
      refine SW.gt 4 _ (by repeat (first | refine NP.then ?_ | refine NP.inBlock ?_ | exact NP.body)) (by kernel_rfl) rfl rfl rfl (fun R hg => Ev.move (Opd.mk rfl)) (by kernel_rfl) rfl ?_
      refine SW.gt 5 _ (by repeat (first | refine NP.then ?_ | refine NP.inBlock ?_ | exact NP.body)) (by kernel_rfl) rfl rfl rfl (fun R hg => Ev.sub (Opd.gv rfl hg) (Opd.mk rfl) (by first | omega | (simp only [Bool.and_true, Bool.true_and, decide_eq_true_eq, decide_eq_false_iff_not, Bool.and_eq_true, Bool.or_eq_true, Bool.and_eq_false_iff, Bool.or_eq_false_iff, Bool.not_eq_true', Bool.not_eq_false', beq_iff_eq, beq_eq_false_iff_ne, Int.not_lt, Int.not_le] at hg; omega))) (by kernel_rfl) rfl ?_
      refine SW.gt 6 _ (by repeat (first | refine NP.then ?_ | refine NP.inBlock ?_ | exact NP.body)) (by kernel_rfl) rfl rfl rfl (fun R hg => Ev.idxaddr (k := (k - 1)) (Opd.gv rfl hg) (Opd.gv rfl hg) Tryz.underlying23 sz9 (by first | omega | (simp only [Bool.and_true, Bool.true_and, decide_eq_true_eq, decide_eq_false_iff_not, Bool.and_eq_true, Bool.or_eq_true, Bool.and_eq_false_iff, Bool.or_eq_false_iff, Bool.not_eq_true', Bool.not_eq_false', beq_iff_eq, beq_eq_false_iff_ne, Int.not_lt, Int.not_le] at hg; omega)) (by first | omega | (simp only [Bool.and_true, Bool.true_and, decide_eq_true_eq, decide_eq_false_iff_not, Bool.and_eq_true, Bool.or_eq_true, Bool.and_eq_false_iff, Bool.or_eq_false_iff, Bool.not_eq_true', Bool.not_eq_false', beq_iff_eq, beq_eq_false_iff_ne, Int.not_lt, Int.not_le] at hg; omega))) (by kernel_rfl) rfl ?_
      refine SW.gt 7 _ (by repeat (first | refine NP.then ?_ | refine NP.inBlock ?_ | exact NP.body)) (by kernel_rfl) rfl rfl rfl (fun R hg => Ev.ld1 (Opd.gv rfl hg) (some_getD [] (by first | omega | (simp only [Bool.and_true, Bool.true_and, decide_eq_true_eq, decide_eq_false_iff_not, Bool.and_eq_true, Bool.or_eq_true, Bool.and_eq_false_iff, Bool.or_eq_false_iff, Bool.not_eq_true', Bool.not_eq_false', beq_iff_eq, beq_eq_false_iff_ne, Int.not_lt, Int.not_le] at hg; omega))) Tryz.underlying9 trivial rfl) (by kernel_rfl) rfl ?_
      refine SW.gt 8 _ (by repeat (first | refine NP.then ?_ | refine NP.inBlock ?_ | exact NP.body)) (by kernel_rfl) rfl rfl rfl (fun R hg => Ev.move (Opd.mk rfl)) (by kernel_rfl) rfl ?_
      refine SW.gt 9 _ (by repeat (first | refine NP.then ?_ | refine NP.inBlock ?_ | exact NP.body)) (by kernel_rfl) rfl rfl rfl (fun R hg => Ev.move (Opd.mk rfl)) (by kernel_rfl) rfl ?_
      refine SW.gt 10 _ (by repeat (first | refine NP.then ?_ | refine NP.inBlock ?_ | exact NP.body)) (by kernel_rfl) rfl rfl rfl (fun R hg => Ev.idxaddr (k := k) (Opd.gv rfl hg) (Opd.gv rfl hg) Tryz.underlying23 sz9 (by first | omega | (simp only [Bool.and_true, Bool.true_and, decide_eq_true_eq, decide_eq_false_iff_not, Bool.and_eq_true, Bool.or_eq_true, Bool.and_eq_false_iff, Bool.or_eq_false_iff, Bool.not_eq_true', Bool.not_eq_false', beq_iff_eq, beq_eq_false_iff_ne, Int.not_lt, Int.not_le] at hg; omega)) (by first | omega | (simp only [Bool.and_true, Bool.true_and, decide_eq_true_eq, decide_eq_false_iff_not, Bool.and_eq_true, Bool.or_eq_true, Bool.and_eq_false_iff, Bool.or_eq_false_iff, Bool.not_eq_true', Bool.not_eq_false', beq_iff_eq, beq_eq_false_iff_ne, Int.not_lt, Int.not_le] at hg; omega))) (by kernel_rfl) rfl ?_
      refine SW.gt 11 _ (by repeat (first | refine NP.then ?_ | refine NP.inBlock ?_ | exact NP.body)) (by kernel_rfl) rfl rfl rfl (fun R hg => Ev.ld1 (Opd.gv rfl hg) (some_getD [] (by first | omega | (simp only [Bool.and_true, Bool.true_and, decide_eq_true_eq, decide_eq_false_iff_not, Bool.and_eq_true, Bool.or_eq_true, Bool.and_eq_false_iff, Bool.or_eq_false_iff, Bool.not_eq_true', Bool.not_eq_false', beq_iff_eq, beq_eq_false_iff_ne, Int.not_lt, Int.not_le] at hg; omega))) Tryz.underlying9 trivial rfl) (by kernel_rfl) rfl ?_
      refine SW.gt 12 _ (by repeat (first | refine NP.then ?_ | refine NP.inBlock ?_ | exact NP.body)) (by kernel_rfl) rfl rfl rfl (fun R hg => Ev.strgeq (Opd.gv rfl hg) (Opd.gv rfl hg)) (by kernel_rfl) rfl ?_
      refine SW.defer 13 (by repeat (first | refine NP.then ?_ | refine NP.inBlock ?_ | exact NP.body)) (by kernel_rfl) rfl (fun R => Ev.and (Opd.mk rfl) (fun hp => Opd.gv rfl hp)) (by kernel_rfl) rfl ?_
      refine SW.defer 14 (by repeat (first | refine NP.then ?_ | refine NP.inBlock ?_ | exact NP.body)) (by kernel_rfl) rfl (fun R => Ev.move (Opd.mk rfl)) (by kernel_rfl) rfl ?_
      refine SW.slot 51 (.bool false) rfl (congrArg Value.bool (known_ok hss (by omega))) ?_
      refine SW.gf 15 _ (by repeat (first | refine NP.then ?_ | refine NP.inBlock ?_ | exact NP.body)) (by kernel_rfl) rfl rfl rfl (fun R _ => Ev.move (Opd.mk rfl)) (by kernel_rfl) rfl ?_
      refine SW.slot 52 _ rfl (gv_true rfl _) ?_
      refine SW.gf 16 _ (by repeat (first | refine NP.then ?_ | refine NP.inBlock ?_ | exact NP.body)) (by kernel_rfl) rfl rfl rfl (fun R _ => Ev.move (Opd.mk rfl)) (by kernel_rfl) rfl ?_
      refine SW.slot 53 _ rfl (gv_true rfl _) ?_
      refine SW.gf 17 _ (by repeat (first | refine NP.then ?_ | refine NP.inBlock ?_ | exact NP.body)) (by kernel_rfl) rfl rfl rfl (fun R _ => Ev.move (Opd.mk rfl)) (by kernel_rfl) rfl ?_
      refine SW.slot 54 _ rfl (gv_true rfl _) ?_
      refine SW.gf 18 _ (by repeat (first | refine NP.then ?_ | refine NP.inBlock ?_ | exact NP.body)) (by kernel_rfl) rfl rfl rfl (fun R _ => Ev.idxaddr (k := k) (Opd.mk rfl) (Opd.mk rfl) Tryz.underlying23 sz9 (by omega) (by omega)) (by kernel_rfl) rfl ?_
      refine SW.slot 55 _ rfl (gv_true rfl _) ?_
      refine SW.gf 19 _ (by repeat (first | refine NP.then ?_ | refine NP.inBlock ?_ | exact NP.body)) (by kernel_rfl) rfl rfl rfl (fun R _ => Ev.ld1 (Opd.mk rfl) hw Tryz.underlying9 trivial rfl) (by kernel_rfl) rfl ?_
      refine SW.slot 56 _ rfl (gv_true rfl _) ?_
      refine SW.turn1 (i := 20) (by kernel_rfl) rfl ?_
      refine St.takeg rfl rfl ?_
      refine St.buildSl (xs := [(Operand.tmp 56)]) (ps := [(0, (Operand.tmp 56))]) rfl (Opds.cons (Opd.mk rfl) Opds.nil) Tryz.underlying23 sz9 zv9 rfl rfl (by simp [Value.cells]) rfl rfl (fun b57 => ?_)
      refine St.publish (.slice (some ⟨b57, 0, none⟩) 1 1) strR [w] rfl rfl (fun x hx => by rw [List.mem_singleton.1 hx]; exact hww) ?_
      refine St.nil ?_
      refine St.then_normal ?_
      refine SW.go ?_
      refine SW.turn1 (i := 21) (by kernel_rfl) rfl ?_
      refine St.takeg rfl rfl ?_
      refine St.calld (PartHits_spec v0 (.slice (some ⟨b57, 0, none⟩) 1 1) l [w] 0 hcorp (by simp) (by omega)) cb16 (Opds.cons (Opd.mk rfl) (Opds.cons (Opd.mk rfl) (Opds.cons (Opd.mk rfl) Opds.nil))) rfl ?_
      rintro v58 _ ⟨h58, rfl⟩
      refine St.app1 ?_
      refine St.openH v58 (hitsW l [w] 0) (fun uwk huwk => ?_)
      have hzk := zip_len huwk
      refine St.nil ?_
      refine St.then_normal ?_
      refine SW.go ?_
      refine SW.turn1 (i := 22) (by kernel_rfl) rfl ?_
      refine St.takeg rfl rfl ?_
      refine St.ev _ (Ev.lensl (Opd.mk rfl) Tryz.underlying36) rfl ?_
      refine St.nil ?_
      refine St.then_normal ?_
      refine SW.go ?_
      refine SW.gf 23 _ (by repeat (first | refine NP.then ?_ | refine NP.inBlock ?_ | exact NP.body)) (by kernel_rfl) rfl rfl rfl (fun R _ => Ev.eql (Opd.mk rfl) (Opd.mk rfl)) (by kernel_rfl) rfl ?_
      refine SW.slot 60 _ rfl (gv_true rfl _) ?_
      refine SW.defer 24 (by repeat (first | refine NP.then ?_ | refine NP.inBlock ?_ | exact NP.body)) (by kernel_rfl) rfl (fun R => Ev.pickf (Opd.mk rfl) rfl (Opd.mk rfl)) (by kernel_rfl) rfl ?_
      refine SW.done (by kernel_rfl) ?_
      refine St.then_normal ?_
      refine St.condf _ rfl (by rw [hzk, hw_len]; have := hits_ne hwm; exact decide_eq_false (by omega)) ?_
      refine St.skip ?_
      refine St.in_normal ?_
      refine St.then_normal ?_
      refine St.rg ?_
      refine St.ev _ (Ev.move (Opd.mk rfl)) rfl ?_
      refine St.ev _ (Ev.add (Opd.mk rfl) (Opd.mk rfl) (by omega)) rfl ?_
      refine St.ev _ (Ev.assign (Opd.mk rfl)) rfl ?_
      refine St.nil ?_
      refine St.then_normal ?_
      refine St.againS (k + 1) (by omega) (by first | omega | (dsimp only; omega)) (by repeat (first | exact Sub.nil | refine Sub.cons (by first | rfl | exact congrArg (fun z => some (iv z)) (by first | omega | (dsimp only; omega)) | exact congrArg (fun z => some (Value.bool z)) (by first | assumption | exact Eq.symm (by assumption))) ?_)) (fun _ hw => hw.sub)
    · skip
      try simp only [Bool.and_true, Bool.true_and, decide_eq_true_eq, decide_eq_false_iff_not, Bool.and_eq_true, Bool.or_eq_true, Bool.and_eq_false_iff, Bool.or_eq_false_iff, Bool.not_eq_true', Bool.not_eq_false', beq_iff_eq, beq_eq_false_iff_ne, Int.not_lt, Int.not_le] at h34
      refine St.exit ?_
      refine St.then_exit ?_
      refine St.then_exit ?_
      refine St.in_hit ?_
      refine St.then_normal ?_
      refine St.seq ?_
      refine St.seq ?_
      refine St.rg ?_
      refine St.ev _ (Ev.assign (Opd.mk rfl)) rfl ?_
      refine St.nil ?_
      refine St.then_normal ?_
      refine St.block ?_
      refine St.loopS (ι := Nat) (fun i T => (9, iv i) :: T) (fun i => i ≤ l.length) (fun i => l.length - i) 0 (Keep.cons 0 rfl (Keep.cons 1 rfl (Keep.cons 5 rfl (Keep.cons 6 rfl (Keep.cons 7 rfl Keep.nil))))) (Nat.zero_le _) (by repeat (first | exact Sub.nil | refine Sub.cons (by first | rfl | exact congrArg (fun z => some (iv z)) (by first | omega | (dsimp only; omega)) | exact congrArg (fun z => some (Value.bool z)) (by first | assumption | exact Eq.symm (by assumption))) ?_)) ?_
      intro i hphi
      refine St.seq ?_
      refine St.seq ?_
      refine St.rg ?_
      refine St.ev _ (Ev.move (Opd.mk rfl)) rfl ?_
      refine St.ev _ (Ev.move (Opd.mk rfl)) rfl ?_
      refine St.ev _ (Ev.lensl (Opd.mk rfl) Tryz.underlying22) rfl ?_
      refine St.ev _ (Ev.lss (Opd.mk rfl) (Opd.mk rfl)) rfl ?_
      refine St.nil ?_
      refine St.then_normal ?_
      refine St.cond _ rfl (fun h65 => ?_) (fun h65 => ?_)
      · skip
        try simp only [Bool.and_true, Bool.true_and, decide_eq_true_eq, decide_eq_false_iff_not, Bool.and_eq_true, Bool.or_eq_true, Bool.and_eq_false_iff, Bool.or_eq_false_iff, Bool.not_eq_true', Bool.not_eq_false', beq_iff_eq, beq_eq_false_iff_ne, Int.not_lt, Int.not_le] at h65
        obtain ⟨s, hs⟩ := some_of_lt (show i < l.length by omega)
        obtain ⟨u, hu⟩ := some_of_lt (show i < vs.length by omega)
        refine St.ptw (vs := vs) i hu hs ?_
        have hs12 := mem_get hcorp hs
        refine St.skip ?_
        refine St.then_normal ?_
        refine St.seq ?_
        refine St.block ?_
        refine St.seq ?_
        refine St.rg ?_
        refine St.ev _ (Ev.assign (Opd.mk rfl)) rfl ?_
        refine St.nil ?_
        refine St.then_normal ?_
        refine St.block ?_
        refine St.loopS (ι := Nat) (fun k T => (10, iv k) :: T) (fun k => k ≤ s.length) (fun k => s.length - k) 0 (Keep.cons 0 rfl (Keep.cons 1 rfl (Keep.cons 5 rfl (Keep.cons 6 rfl (Keep.cons 7 rfl (Keep.cons 9 rfl Keep.nil)))))) (Nat.zero_le _) (by repeat (first | exact Sub.nil | refine Sub.cons (by first | rfl | exact congrArg (fun z => some (iv z)) (by first | omega | (dsimp only; omega)) | exact congrArg (fun z => some (Value.bool z)) (by first | assumption | exact Eq.symm (by assumption))) ?_)) ?_
        intro k hphi
        refine St.seq ?_
        refine St.seq ?_
        refine St.rg ?_
        refine St.ev _ (Ev.move (Opd.mk rfl)) rfl ?_
        refine St.ev _ (Ev.move (Opd.mk rfl)) rfl ?_
        refine St.ev _ (Ev.move (Opd.mk rfl)) rfl ?_
        refine St.ev _ (Ev.idxaddr (k := i) (Opd.mk rfl) (Opd.mk rfl) Tryz.underlying22 sz23 (by omega) (by omega)) rfl ?_
        refine St.ev _ (Ev.ld1 (Opd.mk rfl) hu Tryz.underlying23 trivial rfl) rfl ?_
        refine St.ev _ (Ev.lensl (Opd.mk rfl) Tryz.underlying23) rfl ?_
        refine St.ev _ (Ev.lss (Opd.mk rfl) (Opd.mk rfl)) rfl ?_
        refine St.nil ?_
        refine St.then_normal ?_
        refine St.cond _ rfl (fun h74 => ?_) (fun h74 => ?_)
        · skip
          try simp only [Bool.and_true, Bool.true_and, decide_eq_true_eq, decide_eq_false_iff_not, Bool.and_eq_true, Bool.or_eq_true, Bool.and_eq_false_iff, Bool.or_eq_false_iff, Bool.not_eq_true', Bool.not_eq_false', beq_iff_eq, beq_eq_false_iff_ne, Int.not_lt, Int.not_le] at h74
          obtain ⟨w, hw⟩ := some_of_lt (show k < s.length by omega)
          have hwm : w ∈ (wordsOf l) := (wordsOf_mem l w).2 ⟨s, List.mem_of_getElem? hs, List.mem_of_getElem? hw⟩
          refine St.skip ?_
          refine St.then_normal ?_
          refine St.seq ?_
          refine St.block ?_
          refine St.seq ?_
          refine St.rg ?_
          refine St.ev _ (Ev.assign (Opd.mk rfl)) rfl ?_
          refine St.nil ?_
          refine St.then_normal ?_
          refine St.seq ?_
          refine St.seq ?_
          refine St.rg ?_
          refine St.ev _ (Ev.assign (Opd.mk rfl)) rfl ?_
          refine St.nil ?_
          refine St.then_normal ?_
          refine St.block ?_
          refine St.loopS (ι := Nat) (fun m T => (12, iv m) :: (11, .bool (((wordsOf l).take m).any (fun y => y == w))) :: T) (fun m => m ≤ (wordsOf l).length) (fun m => (wordsOf l).length - m) 0 (Keep.cons 0 rfl (Keep.cons 1 rfl (Keep.cons 5 rfl (Keep.cons 6 rfl (Keep.cons 7 rfl (Keep.cons 9 rfl (Keep.cons 10 rfl Keep.nil))))))) (Nat.zero_le _) (by repeat (first | exact Sub.nil | refine Sub.cons (by first | rfl | exact congrArg (fun z => some (iv z)) (by first | omega | (dsimp only; omega)) | exact congrArg (fun z => some (Value.bool z)) (by first | assumption | exact Eq.symm (by assumption))) ?_)) ?_
          intro m hphi
          refine St.seq ?_
          refine St.seq ?_
          refine St.rg ?_
          refine St.ev _ (Ev.move (Opd.mk rfl)) rfl ?_
          refine St.ev _ (Ev.move (Opd.mk rfl)) rfl ?_
          refine St.ev _ (Ev.lensl (Opd.mk rfl) Tryz.underlying23) rfl ?_
          refine St.ev _ (Ev.lss (Opd.mk rfl) (Opd.mk rfl)) rfl ?_
          refine St.nil ?_
          refine St.then_normal ?_
          refine St.cond _ rfl (fun h80 => ?_) (fun h80 => ?_)
          · skip
            try simp only [Bool.and_true, Bool.true_and, decide_eq_true_eq, decide_eq_false_iff_not, Bool.and_eq_true, Bool.or_eq_true, Bool.and_eq_false_iff, Bool.or_eq_false_iff, Bool.not_eq_true', Bool.not_eq_false', beq_iff_eq, beq_eq_false_iff_ne, Int.not_lt, Int.not_le] at h80
            obtain ⟨y, hy⟩ := some_of_lt (show m < (wordsOf l).length by omega)
            refine St.skip ?_
            refine St.then_normal ?_
            refine St.seq ?_
            refine St.block ?_
            refine St.rq mixed (by kernel_rfl) (Mm.drawn _ _) ?_
            refine Sq.ev _ (Ev.move (Opd.mk rfl)) rfl ?_
            refine Sq.ev _ (Ev.move (Opd.mk rfl)) rfl ?_
            refine Sq.gf _ rfl rfl (fun hg => Ev.move (Opd.mk rfl)) rfl ?_
            refine Sq.gf _ rfl rfl (fun hg => Ev.move (Opd.mk rfl)) rfl ?_
            refine Sq.gf _ rfl rfl (fun hg => Ev.idxaddr (k := m) (Opd.gv rfl hg) (Opd.gv rfl hg) Tryz.underlying23 sz9 (by omega) (by omega)) rfl ?_
            refine Sq.gf _ rfl rfl (fun hg => Ev.ld1 (Opd.gv rfl hg) hy Tryz.underlying9 trivial rfl) rfl ?_
            refine Sq.gf _ rfl rfl (fun hg => Ev.move (Opd.mk rfl)) rfl ?_
            refine Sq.gf _ rfl rfl (fun hg => Ev.move (Opd.mk rfl)) rfl ?_
            refine Sq.gf _ rfl rfl (fun hg => Ev.idxaddr (k := i) (Opd.gv rfl hg) (Opd.gv rfl hg) Tryz.underlying22 sz23 (by omega) (by omega)) rfl ?_
            refine Sq.gf _ rfl rfl (fun hg => Ev.ld1 (Opd.gv rfl hg) hu Tryz.underlying23 trivial rfl) rfl ?_
            refine Sq.gf _ rfl rfl (fun hg => Ev.move (Opd.mk rfl)) rfl ?_
            refine Sq.gf _ rfl rfl (fun hg => Ev.idxaddr (k := k) (Opd.gv rfl hg) (Opd.gv rfl hg) Tryz.underlying23 sz9 (by omega) (by omega)) rfl ?_
            refine Sq.gf _ rfl rfl (fun hg => Ev.ld1 (Opd.gv rfl hg) hw Tryz.underlying9 trivial rfl) rfl ?_
            refine Sq.gf _ rfl rfl (fun hg => Ev.streq (Opd.gv rfl hg) (Opd.gv rfl hg)) rfl ?_
            refine Sq.ev _ (Ev.or (Opd.mk rfl) (fun hp => Opd.gv rfl hp)) rfl ?_
            refine Sq.ev _ (Ev.assign (Opd.mk rfl)) rfl ?_
            refine Sq.nil ?_
            refine St.in_normal ?_
            refine St.then_normal ?_
            refine St.rg ?_
            refine St.ev _ (Ev.move (Opd.mk rfl)) rfl ?_
            refine St.ev _ (Ev.add (Opd.mk rfl) (Opd.mk rfl) (by omega)) rfl ?_
            refine St.ev _ (Ev.assign (Opd.mk rfl)) rfl ?_
            refine St.nil ?_
            refine St.then_normal ?_
            have hstep := any_step (w := w) hy
            refine St.againS (m + 1) (by omega) (by first | omega | (dsimp only; omega)) (by repeat (first | exact Sub.nil | refine Sub.cons (by first | rfl | exact congrArg (fun z => some (iv z)) (by first | omega | (dsimp only; omega)) | exact congrArg (fun z => some (Value.bool z)) (by first | assumption | exact Eq.symm (by assumption))) ?_)) (fun _ hw => hw.sub)
          · skip
            try simp only [Bool.and_true, Bool.true_and, decide_eq_true_eq, decide_eq_false_iff_not, Bool.and_eq_true, Bool.or_eq_true, Bool.and_eq_false_iff, Bool.or_eq_false_iff, Bool.not_eq_true', Bool.not_eq_false', beq_iff_eq, beq_eq_false_iff_ne, Int.not_lt, Int.not_le] at h80
            have hany : ((wordsOf l).take m).any (fun y => y == w) = true := by rw [List.take_of_length_le (by omega), List.any_eq_true]; exact ⟨w, hwm, by simp⟩
            refine St.exit ?_
            refine St.then_exit ?_
            refine St.then_exit ?_
            refine St.in_hit ?_
            refine St.then_normal ?_
            refine St.seq ?_
            refine St.rg ?_
            refine St.ev _ (Ev.move (Opd.mk rfl)) rfl ?_
            refine St.ev _ (Ev.not (Opd.mk rfl)) rfl ?_
            refine St.nil ?_
            refine St.then_normal ?_
            refine St.condf _ rfl (by rw [hany]; rfl) ?_
            refine St.skip ?_
            refine St.in_normal ?_
            refine St.then_normal ?_
            refine St.rg ?_
            refine St.ev _ (Ev.move (Opd.mk rfl)) rfl ?_
            refine St.ev _ (Ev.add (Opd.mk rfl) (Opd.mk rfl) (by omega)) rfl ?_
            refine St.ev _ (Ev.assign (Opd.mk rfl)) rfl ?_
            refine St.nil ?_
            refine St.then_normal ?_
            refine St.againS (k + 1) (by omega) (by first | omega | (dsimp only; omega)) (by repeat (first | exact Sub.nil | refine Sub.cons (by first | rfl | exact congrArg (fun z => some (iv z)) (by first | omega | (dsimp only; omega)) | exact congrArg (fun z => some (Value.bool z)) (by first | assumption | exact Eq.symm (by assumption))) ?_)) (fun _ hw => hw.sub)
        · skip
          try simp only [Bool.and_true, Bool.true_and, decide_eq_true_eq, decide_eq_false_iff_not, Bool.and_eq_true, Bool.or_eq_true, Bool.and_eq_false_iff, Bool.or_eq_false_iff, Bool.not_eq_true', Bool.not_eq_false', beq_iff_eq, beq_eq_false_iff_ne, Int.not_lt, Int.not_le] at h74
          refine St.exit ?_
          refine St.then_exit ?_
          refine St.then_exit ?_
          refine St.in_hit ?_
          refine St.in_normal ?_
          refine St.then_normal ?_
          refine St.rg ?_
          refine St.ev _ (Ev.move (Opd.mk rfl)) rfl ?_
          refine St.ev _ (Ev.add (Opd.mk rfl) (Opd.mk rfl) (by omega)) rfl ?_
          refine St.ev _ (Ev.assign (Opd.mk rfl)) rfl ?_
          refine St.nil ?_
          refine St.then_normal ?_
          refine St.againS (i + 1) (by omega) (by first | omega | (dsimp only; omega)) (by repeat (first | exact Sub.nil | refine Sub.cons (by first | rfl | exact congrArg (fun z => some (iv z)) (by first | omega | (dsimp only; omega)) | exact congrArg (fun z => some (Value.bool z)) (by first | assumption | exact Eq.symm (by assumption))) ?_)) (fun _ hw => hw.sub)
      · skip
        try simp only [Bool.and_true, Bool.true_and, decide_eq_true_eq, decide_eq_false_iff_not, Bool.and_eq_true, Bool.or_eq_true, Bool.and_eq_false_iff, Bool.or_eq_false_iff, Bool.not_eq_true', Bool.not_eq_false', beq_iff_eq, beq_eq_false_iff_ne, Int.not_lt, Int.not_le] at h65
        refine St.exit ?_
        refine St.then_exit ?_
        refine St.then_exit ?_
        refine St.in_hit ?_
        refine St.then_normal ?_
        refine St.seq ?_
        refine St.rg ?_
        refine St.ev _ (Ev.ldbA (Opd.mk rfl) Tryz.underlying28 trivial (by exact sz28)) rfl ?_
        refine St.ev _ (Ev.move (Opd.mk rfl)) rfl ?_
        refine St.calldW hdr (With_spec vl vw vp vo vz v1 l ws hcorp) cb20 (Opds.cons (Opd.mk rfl) (Opds.cons (Opd.mk rfl) Opds.nil)) rfl ?_
        rintro v103 _ ⟨uw, rfl, huw, rfl⟩
        refine St.app1 ?_
        refine St.ev _ (Ev.move (Opd.mk rfl)) rfl ?_
        refine St.ev _ (Ev.extract (Opd.mk rfl) rfl) rfl ?_
        refine St.ev _ (Ev.extract (Opd.mk rfl) rfl) rfl ?_
        refine St.ev _ (Ev.assign (Opd.mk rfl)) rfl ?_
        refine St.storeA (Opd.mk rfl) (Opd.mk rfl) sz30 (by first | simp only [List.length_cons, List.length_nil] | rfl) rfl ?_
        refine St.nil ?_
        refine St.then_normal ?_
        refine St.seq ?_
        refine St.seq ?_
        refine St.rg ?_
        refine St.ev _ (Ev.move (Opd.mk rfl)) rfl ?_
        refine St.ev _ (Ev.lensl (Opd.mk rfl) Tryz.underlying23) rfl ?_
        refine St.ev _ (Ev.gtr (Opd.mk rfl) (Opd.mk rfl)) rfl ?_
        refine St.nil ?_
        refine St.then_normal ?_
        refine St.cond _ rfl (fun h108 => ?_) (fun h108 => ?_)
        · skip
          try simp only [Bool.and_true, Bool.true_and, decide_eq_true_eq, decide_eq_false_iff_not, Bool.and_eq_true, Bool.or_eq_true, Bool.and_eq_false_iff, Bool.or_eq_false_iff, Bool.not_eq_true', Bool.not_eq_false', beq_iff_eq, beq_eq_false_iff_ne, Int.not_lt, Int.not_le] at h108
          have hf : withF ws = (2, -1) := by unfold withF; rw [if_pos (by omega)]
          refine St.seq ?_
          refine St.rg ?_
          refine St.ev _ (Ev.ldbA (Opd.mk rfl) Tryz.underlying30 trivial (by exact sz30)) rfl ?_
          refine St.ev _ (Ev.build (ps := [(0, (Operand.const (Value.int IntKind.i64 2))), (1, (Operand.const (Value.int IntKind.i64 (-1))))]) (Opds.cons (Opd.mk rfl) (Opds.cons (Opd.mk rfl) Opds.nil)) (fun w => bld30_0_1 rfl rfl w)) rfl ?_
          refine St.ev _ (Ev.structeql (Opd.mk rfl) (Opd.mk rfl) Tryz.eqGuardType30 (fun w => eqf30 _ _ _ _ w)) rfl ?_
          refine St.ev _ (Ev.move (Opd.mk rfl)) rfl ?_
          refine St.gt _ rfl rfl (fun hg => Ev.move (Opd.mk rfl)) rfl ?_
          refine St.gt _ rfl rfl (fun hg => Ev.lensl (Opd.gv rfl hg) Tryz.underlying25) rfl ?_
          refine St.gt _ rfl rfl (fun hg => Ev.eql (Opd.gv rfl hg) (Opd.mk rfl)) rfl ?_
          refine St.ev _ (Ev.and (Opd.mk rfl) (fun hp => Opd.gv rfl hp)) rfl ?_
          refine St.ev _ (Ev.assign (Opd.mk rfl)) rfl ?_
          refine St.nil ?_
          refine St.then_normal ?_
          refine St.rett ?_
          refine St.then_ret ?_
          refine St.rets [_] [] Tryz.results6 ⟨rfl, trivial⟩ ?_ (fun _ hw => hw.sub)
          exact be (by rw [ints_length, withL_f (by rw [hf]; decide), hf]; simp)
        · skip
          try simp only [Bool.and_true, Bool.true_and, decide_eq_true_eq, decide_eq_false_iff_not, Bool.and_eq_true, Bool.or_eq_true, Bool.and_eq_false_iff, Bool.or_eq_false_iff, Bool.not_eq_true', Bool.not_eq_false', beq_iff_eq, beq_eq_false_iff_ne, Int.not_lt, Int.not_le] at h108
          refine St.skip ?_
          refine St.then_normal ?_
          refine St.seq ?_
          refine St.seq ?_
          refine St.rg ?_
          refine St.ev _ (Ev.assign (Opd.mk rfl)) rfl ?_
          refine St.nil ?_
          refine St.then_normal ?_
          refine St.block ?_
          refine St.loopS (ι := Nat) (fun k T => (14, iv k) :: T) (fun k => k ≤ ws.length ∧ withF ws = partFrom k (ws.drop k)) (fun k => ws.length - k) 0 (Keep.cons 0 rfl (Keep.cons 1 rfl (Keep.cons 6 rfl (Keep.cons 13 rfl Keep.nil)))) ⟨Nat.zero_le _, by unfold withF; rw [if_neg (by omega)]; rfl⟩ (by repeat (first | exact Sub.nil | refine Sub.cons (by first | rfl | exact congrArg (fun z => some (iv z)) (by first | omega | (dsimp only; omega)) | exact congrArg (fun z => some (Value.bool z)) (by first | assumption | exact Eq.symm (by assumption))) ?_)) ?_
          intro k hphi
          obtain ⟨hk, hv⟩ := hphi
          refine St.seq ?_
          refine St.seq ?_
          refine St.rg ?_
          refine St.ev _ (Ev.move (Opd.mk rfl)) rfl ?_
          refine St.ev _ (Ev.move (Opd.mk rfl)) rfl ?_
          refine St.ev _ (Ev.lensl (Opd.mk rfl) Tryz.underlying23) rfl ?_
          refine St.ev _ (Ev.lss (Opd.mk rfl) (Opd.mk rfl)) rfl ?_
          refine St.nil ?_
          refine St.then_normal ?_
          refine St.cond _ rfl (fun h120 => ?_) (fun h120 => ?_)
          · skip
            try simp only [Bool.and_true, Bool.true_and, decide_eq_true_eq, decide_eq_false_iff_not, Bool.and_eq_true, Bool.or_eq_true, Bool.and_eq_false_iff, Bool.or_eq_false_iff, Bool.not_eq_true', Bool.not_eq_false', beq_iff_eq, beq_eq_false_iff_ne, Int.not_lt, Int.not_le] at h120
            obtain ⟨w, hw⟩ := some_of_lt (show k < ws.length by omega)
            have hwm := List.mem_of_getElem? hw
            refine St.skip ?_
            refine St.then_normal ?_
            refine St.seq ?_
            refine St.block ?_
            refine St.seq ?_
            refine St.rg ?_
            refine St.ev _ (Ev.move (Opd.mk rfl)) rfl ?_
            refine St.ev _ (Ev.move (Opd.mk rfl)) rfl ?_
            refine St.ev _ (Ev.idxaddr (k := k) (Opd.mk rfl) (Opd.mk rfl) Tryz.underlying23 sz9 (by omega) (by omega)) rfl ?_
            refine St.ev _ (Ev.ld1 (Opd.mk rfl) hw Tryz.underlying9 trivial rfl) rfl ?_
            refine St.ev _ (Ev.call (IsWord_spec w (wlen (hwf1 w hwm))) cb21 (Opds.cons (Opd.mk rfl) Opds.nil)) rfl ?_
            refine St.ev _ (Ev.not (Opd.mk rfl)) rfl ?_
            refine St.nil ?_
            refine St.then_normal ?_
            refine St.cond _ rfl (fun h128 => ?_) (fun h128 => ?_)
            · skip
              simp only [Bool.not_eq_true', Bool.not_eq_false'] at h128
              have hf : withF ws = (10, (k : Int)) := by rw [hv, partFrom_step hw, if_neg (by rw [h128]; decide)]
              refine St.seq ?_
              refine St.rg ?_
              refine St.ev _ (Ev.ldbA (Opd.mk rfl) Tryz.underlying30 trivial (by exact sz30)) rfl ?_
              refine St.ev _ (Ev.move (Opd.mk rfl)) rfl ?_
              refine St.ev _ (Ev.build (ps := [(0, (Operand.const (Value.int IntKind.i64 10))), (1, (Operand.tmp 130))]) (Opds.cons (Opd.mk rfl) (Opds.cons (Opd.mk rfl) Opds.nil)) (fun w => bld30_0_1 rfl rfl w)) rfl ?_
              refine St.ev _ (Ev.structeql (Opd.mk rfl) (Opd.mk rfl) Tryz.eqGuardType30 (fun w => eqf30 _ _ _ _ w)) rfl ?_
              refine St.ev _ (Ev.move (Opd.mk rfl)) rfl ?_
              refine St.gt _ rfl rfl (fun hg => Ev.move (Opd.mk rfl)) rfl ?_
              refine St.gt _ rfl rfl (fun hg => Ev.lensl (Opd.gv rfl hg) Tryz.underlying25) rfl ?_
              refine St.gt _ rfl rfl (fun hg => Ev.eql (Opd.gv rfl hg) (Opd.mk rfl)) rfl ?_
              refine St.ev _ (Ev.and (Opd.mk rfl) (fun hp => Opd.gv rfl hp)) rfl ?_
              refine St.ev _ (Ev.assign (Opd.mk rfl)) rfl ?_
              refine St.nil ?_
              refine St.then_normal ?_
              refine St.rett ?_
              refine St.in_ret ?_
              refine St.then_ret ?_
              refine St.then_ret ?_
              refine St.in_ret ?_
              refine St.then_ret ?_
              refine St.rets [_] [] Tryz.results6 ⟨rfl, trivial⟩ ?_ (fun _ hw => hw.sub)
              exact be (by rw [ints_length, withL_f (by rw [hf]; show (10 : Int) ≠ 0; decide), hf]; simp)
            · skip
              simp only [Bool.not_eq_true', Bool.not_eq_false'] at h128
              refine St.skip ?_
              refine St.in_normal ?_
              refine St.then_normal ?_
              refine St.rg ?_
              refine St.ev _ (Ev.move (Opd.mk rfl)) rfl ?_
              refine St.ev _ (Ev.add (Opd.mk rfl) (Opd.mk rfl) (by omega)) rfl ?_
              refine St.ev _ (Ev.assign (Opd.mk rfl)) rfl ?_
              refine St.nil ?_
              refine St.then_normal ?_
              refine St.againS (k + 1) ⟨by omega, by rw [hv, partFrom_step hw, if_pos h128]⟩ (by first | omega | (dsimp only; omega)) (by repeat (first | exact Sub.nil | refine Sub.cons (by first | rfl | exact congrArg (fun z => some (iv z)) (by first | omega | (dsimp only; omega)) | exact congrArg (fun z => some (Value.bool z)) (by first | assumption | exact Eq.symm (by assumption))) ?_)) (fun _ hw => hw.sub)
          · skip
            try simp only [Bool.and_true, Bool.true_and, decide_eq_true_eq, decide_eq_false_iff_not, Bool.and_eq_true, Bool.or_eq_true, Bool.and_eq_false_iff, Bool.or_eq_false_iff, Bool.not_eq_true', Bool.not_eq_false', beq_iff_eq, beq_eq_false_iff_ne, Int.not_lt, Int.not_le] at h120
            have hwz : withF ws = (0, 0) := by rw [hv, List.drop_of_length_le (by omega)]; rfl
            rw [hwz]
            refine St.exit ?_
            refine St.then_exit ?_
            refine St.then_exit ?_
            refine St.in_hit ?_
            refine St.then_normal ?_
            refine St.seq ?_
            refine St.rg ?_
            refine St.buildSl (xs := []) (ps := []) rfl (Opds.nil) Tryz.underlying25 sz3 zv3 rfl rfl (by simp [Value.cells]) rfl rfl (fun b138 => ?_)
            refine St.ev _ (Ev.assign (Opd.mk rfl)) rfl ?_
            refine St.nil ?_
            refine St.then_normal ?_
            refine St.seq ?_
            refine St.seq ?_
            refine St.rg ?_
            refine St.ev _ (Ev.assign (Opd.mk rfl)) rfl ?_
            refine St.nil ?_
            refine St.then_normal ?_
            refine St.block ?_
            refine St.rowEqN (.slice (some ⟨b138, 0, none⟩) 0 0) (show _ = ((List.range 0).filter (hasAll l ws)).length from rfl) (show _ = rows intR (ints ((List.range 0).filter (hasAll l ws))) from rfl) ?_
            refine St.loopH2 (ι := Nat) (κ := Value) (fun i z T => (16, iv i) :: (15, z) :: T) (fun i z => [row z 3 1 ((List.range i).filter (hasAll l ws)).length (rows intR (ints ((List.range i).filter (hasAll l ws)))), dat (sl intR uw (ints (withL l ws))), dat (sl valR v0 vs), dat (ptw strR vs l), dat (sl strR v1 ws), blk b6 (.cells [iv 0, iv 0].toArray 30 (0, 0))]) (fun i z => i ≤ l.length) (fun i z => l.length - i) 0 (.slice (some ⟨b138, 0, none⟩) 0 0) (Keep.cons 0 rfl (Keep.cons 1 rfl (Keep.cons 6 rfl (Keep.cons 13 rfl Keep.nil)))) (Nat.zero_le _) (by repeat (first | exact Sub.nil | refine Sub.cons (by first | rfl | exact congrArg (fun z => some (iv z)) (by first | omega | (dsimp only; omega)) | exact congrArg (fun z => some (Value.bool z)) (by first | assumption | exact Eq.symm (by assumption))) ?_)) (fun _ hw => hw.sub) ?_
            intro i z hi
            have hwi := filter_le (hasAll l ws) i
            refine St.seq ?_
            refine St.seq ?_
            refine St.rg ?_
            refine St.ev _ (Ev.move (Opd.mk rfl)) rfl ?_
            refine St.ev _ (Ev.move (Opd.mk rfl)) rfl ?_
            refine St.ev _ (Ev.lensl (Opd.mk rfl) Tryz.underlying22) rfl ?_
            refine St.ev _ (Ev.lss (Opd.mk rfl) (Opd.mk rfl)) rfl ?_
            refine St.nil ?_
            refine St.then_normal ?_
            refine St.cond _ rfl (fun h142 => ?_) (fun h142 => ?_)
            · skip
              try simp only [Bool.and_true, Bool.true_and, decide_eq_true_eq, decide_eq_false_iff_not, Bool.and_eq_true, Bool.or_eq_true, Bool.and_eq_false_iff, Bool.or_eq_false_iff, Bool.not_eq_true', Bool.not_eq_false', beq_iff_eq, beq_eq_false_iff_ne, Int.not_lt, Int.not_le] at h142
              obtain ⟨s, hs⟩ := some_of_lt (show i < l.length by omega)
              obtain ⟨u, hu⟩ := some_of_lt (show i < vs.length by omega)
              refine St.ptw (vs := vs) i hu hs ?_
              have hsw := hwfl s (List.mem_of_getElem? hs)
              have hc1 := corp_one hcorp (List.mem_of_getElem? hs)
              refine St.skip ?_
              refine St.then_normal ?_
              refine St.seq ?_
              refine St.block ?_
              refine St.seq ?_
              refine St.rg ?_
              refine St.ev _ (Ev.assign (Opd.mk rfl)) rfl ?_
              refine St.nil ?_
              refine St.then_normal ?_
              refine St.seq ?_
              refine St.seq ?_
              refine St.rg ?_
              refine St.ev _ (Ev.assign (Opd.mk rfl)) rfl ?_
              refine St.nil ?_
              refine St.then_normal ?_
              refine St.block ?_
              refine St.loopH (ι := Nat) (fun k T => (18, iv k) :: (17, .bool (hasAll l (ws.take k) i)) :: T) (fun k => [row z 3 1 ((List.range i).filter (hasAll l ws)).length (rows intR (ints ((List.range i).filter (hasAll l ws)))), dat (sl strR u.1 s), dat (sl intR uw (ints (withL l ws))), dat (sl valR v0 vs), dat (ptw strR vs l), dat (sl strR v1 ws), blk b6 (.cells [iv 0, iv 0].toArray 30 (0, 0))]) (fun k => k ≤ ws.length) (fun k => ws.length - k) 0 (Keep.cons 0 rfl (Keep.cons 1 rfl (Keep.cons 6 rfl (Keep.cons 13 rfl (Keep.cons 15 rfl (Keep.cons 16 rfl Keep.nil)))))) (Nat.zero_le _) (by repeat (first | exact Sub.nil | refine Sub.cons (by first | rfl | exact congrArg (fun z => some (iv z)) (by first | omega | (dsimp only; omega)) | exact congrArg (fun z => some (Value.bool z)) (by first | assumption | exact Eq.symm (by assumption))) ?_)) (fun _ hw => hw.sub) ?_
              intro k hk
              refine St.seq ?_
              refine St.seq ?_
              refine St.rg ?_
              refine St.ev _ (Ev.move (Opd.mk rfl)) rfl ?_
              refine St.ev _ (Ev.move (Opd.mk rfl)) rfl ?_
              refine St.ev _ (Ev.lensl (Opd.mk rfl) Tryz.underlying23) rfl ?_
              refine St.ev _ (Ev.lss (Opd.mk rfl) (Opd.mk rfl)) rfl ?_
              refine St.nil ?_
              refine St.then_normal ?_
              refine St.cond _ rfl (fun h148 => ?_) (fun h148 => ?_)
              · skip
                try simp only [Bool.and_true, Bool.true_and, decide_eq_true_eq, decide_eq_false_iff_not, Bool.and_eq_true, Bool.or_eq_true, Bool.and_eq_false_iff, Bool.or_eq_false_iff, Bool.not_eq_true', Bool.not_eq_false', beq_iff_eq, beq_eq_false_iff_ne, Int.not_lt, Int.not_le] at h148
                obtain ⟨w, hw⟩ := some_of_lt (show k < ws.length by omega)
                have hwm := List.mem_of_getElem? hw
                refine St.skip ?_
                refine St.then_normal ?_
                refine St.seq ?_
                refine St.block ?_
                refine St.parL [] mixed ?_
                refine SW.defer 0 (by repeat (first | refine NP.then ?_ | refine NP.inBlock ?_ | exact NP.body)) (by kernel_rfl) rfl (fun R => Ev.move (Opd.mk rfl)) (by kernel_rfl) rfl ?_
                refine SW.defer 1 (by repeat (first | refine NP.then ?_ | refine NP.inBlock ?_ | exact NP.body)) (by kernel_rfl) rfl (fun R => Ev.move (Opd.mk rfl)) (by kernel_rfl) rfl ?_
                refine SW.split 152 _ rfl (fun hs152 => ?_) (fun hs152 => ?_)
                · skip
                  refine SW.gt 2 _ (by repeat (first | refine NP.then ?_ | refine NP.inBlock ?_ | exact NP.body)) (by kernel_rfl) rfl rfl rfl (fun R _ => Ev.move (Opd.mk rfl)) (by kernel_rfl) rfl ?_
                  refine SW.slot 153 _ rfl (gv_true rfl _) ?_
                  refine SW.gt 3 _ (by repeat (first | refine NP.then ?_ | refine NP.inBlock ?_ | exact NP.body)) (by kernel_rfl) rfl rfl rfl (fun R _ => Ev.move (Opd.mk rfl)) (by kernel_rfl) rfl ?_
                  refine SW.slot 154 _ rfl (gv_true rfl _) ?_
                  refine SW.gt 4 _ (by repeat (first | refine NP.then ?_ | refine NP.inBlock ?_ | exact NP.body)) (by kernel_rfl) rfl rfl rfl (fun R _ => Ev.idxaddr (k := i) (Opd.mk rfl) (Opd.mk rfl) Tryz.underlying22 sz23 (by omega) (by omega)) (by kernel_rfl) rfl ?_
                  refine SW.slot 155 _ rfl (gv_true rfl _) ?_
                  refine SW.gt 5 _ (by repeat (first | refine NP.then ?_ | refine NP.inBlock ?_ | exact NP.body)) (by kernel_rfl) rfl rfl rfl (fun R _ => Ev.ld1 (Opd.mk rfl) hu Tryz.underlying23 trivial rfl) (by kernel_rfl) rfl ?_
                  refine SW.slot 156 _ rfl (gv_true rfl _) ?_
                  refine SW.gt 7 _ (by repeat (first | refine NP.then ?_ | refine NP.inBlock ?_ | exact NP.body)) (by kernel_rfl) rfl rfl rfl (fun R _ => Ev.move (Opd.mk rfl)) (by kernel_rfl) rfl ?_
                  refine SW.slot 158 _ rfl (gv_true rfl _) ?_
                  refine SW.gt 8 _ (by repeat (first | refine NP.then ?_ | refine NP.inBlock ?_ | exact NP.body)) (by kernel_rfl) rfl rfl rfl (fun R _ => Ev.move (Opd.mk rfl)) (by kernel_rfl) rfl ?_
                  refine SW.slot 159 _ rfl (gv_true rfl _) ?_
                  refine SW.gt 9 _ (by repeat (first | refine NP.then ?_ | refine NP.inBlock ?_ | exact NP.body)) (by kernel_rfl) rfl rfl rfl (fun R _ => Ev.idxaddr (k := k) (Opd.mk rfl) (Opd.mk rfl) Tryz.underlying23 sz9 (by omega) (by omega)) (by kernel_rfl) rfl ?_
                  refine SW.slot 160 _ rfl (gv_true rfl _) ?_
                  refine SW.gt 10 _ (by repeat (first | refine NP.then ?_ | refine NP.inBlock ?_ | exact NP.body)) (by kernel_rfl) rfl rfl rfl (fun R _ => Ev.ld1 (Opd.mk rfl) hw Tryz.underlying9 trivial rfl) (by kernel_rfl) rfl ?_
                  refine SW.slot 161 _ rfl (gv_true rfl _) ?_
                  refine SW.turn2 (i := 6) (j := 11) (by kernel_rfl) rfl rfl ?_ ?_
                  · skip
                    refine St.takeg rfl rfl ?_
                    refine St.buildSl (xs := [(Operand.tmp 156)]) (ps := [(0, (Operand.tmp 156))]) rfl (Opds.cons (Opd.mk rfl) Opds.nil) Tryz.underlying22 sz23 zv23 rfl rfl (by simp [J.cells_one u.2]) rfl rfl (fun b157 => ?_)
                    refine St.publish (.slice (some ⟨b157, 0, none⟩) 1 1) valR [u] (show _ = rows valR [u] by simp only [List.flatMap_cons, List.flatMap_nil, J.cells_one u.2]; rfl) rfl (fun _ _ => trivial) ?_
                    refine St.ptwNil strR ?_
                    refine St.ptwSnoc [] u (x := s) rfl ?_
                    simp only [List.nil_append]
                    refine St.mkNs (Rr := strR) (l := [s]) (.slice (some ⟨b157, 0, none⟩) 1 1) (vs := [u]) rfl ?_
                    refine St.nil ?_
                    refine St.then_normal ?_
                    refine SW.go ?_
                    refine SW.turn1 (i := 11) (by kernel_rfl) rfl ?_
                    refine St.takeg rfl rfl ?_
                    refine St.buildSl (xs := [(Operand.tmp 161)]) (ps := [(0, (Operand.tmp 161))]) rfl (Opds.cons (Opd.mk rfl) Opds.nil) Tryz.underlying23 sz9 zv9 rfl rfl (by simp [Value.cells]) rfl rfl (fun b162 => ?_)
                    refine St.publish (.slice (some ⟨b162, 0, none⟩) 1 1) strR [w] rfl rfl (fun x hx => by rw [List.mem_singleton.1 hx]; exact hwf1 w hwm) ?_
                    refine St.nil ?_
                    refine St.then_normal ?_
                    refine SW.go ?_
                    refine SW.turn1 (i := 12) (by kernel_rfl) rfl ?_
                    refine St.takeg rfl rfl ?_
                    refine St.calld (PartHits_spec (.slice (some ⟨b157, 0, none⟩) 1 1) (.slice (some ⟨b162, 0, none⟩) 1 1) [s] [w] 0 hc1 (by simp) (by omega)) cb16 (Opds.cons (Opd.mk rfl) (Opds.cons (Opd.mk rfl) (Opds.cons (Opd.mk rfl) Opds.nil))) rfl ?_
                    rintro v163 _ ⟨h163, rfl⟩
                    refine St.app1 ?_
                    refine St.openH v163 (hitsW [s] [w] 0) (fun uwk huwk => ?_)
                    have hzk := zip_len huwk
                    have hcn := cnt_one (w := w) hs
                    refine St.nil ?_
                    refine St.then_normal ?_
                    refine SW.go ?_
                    refine SW.turn1 (i := 13) (by kernel_rfl) rfl ?_
                    refine St.takeg rfl rfl ?_
                    refine St.ev _ (Ev.lensl (Opd.mk rfl) Tryz.underlying36) rfl ?_
                    refine St.nil ?_
                    refine St.then_normal ?_
                    refine SW.go ?_
                    refine SW.gt 14 _ (by repeat (first | refine NP.then ?_ | refine NP.inBlock ?_ | exact NP.body)) (by kernel_rfl) rfl rfl rfl (fun R _ => Ev.gtr (Opd.mk rfl) (Opd.mk rfl)) (by kernel_rfl) rfl ?_
                    refine SW.slot 165 _ rfl (gv_true rfl _) ?_
                    refine SW.defer 15 (by repeat (first | refine NP.then ?_ | refine NP.inBlock ?_ | exact NP.body)) (by kernel_rfl) rfl (fun R => Ev.pickt (Opd.mk rfl) rfl (Opd.mk rfl)) (by kernel_rfl) rfl ?_
                    refine SW.defer 16 (by repeat (first | refine NP.then ?_ | refine NP.inBlock ?_ | exact NP.body)) (by kernel_rfl) rfl (fun R => Ev.assign (Opd.mk rfl)) (by kernel_rfl) rfl ?_
                    refine SW.done (by kernel_rfl) ?_
                    refine St.in_normal ?_
                    refine St.then_normal ?_
                    refine St.rg ?_
                    refine St.ev _ (Ev.move (Opd.mk rfl)) rfl ?_
                    refine St.ev _ (Ev.add (Opd.mk rfl) (Opd.mk rfl) (by omega)) rfl ?_
                    refine St.ev _ (Ev.assign (Opd.mk rfl)) rfl ?_
                    refine St.nil ?_
                    refine St.then_normal ?_
                    have hstep : decide ((0 : Int) < ((List.zipWith hdR (hitsW [s] [w] 0) uwk).length : Nat)) = hasAll l (ws.take (k + 1)) i := by
                      rw [hasAll_step hw, hs152, Bool.true_and, hzk, hw_len, hcn, Bool.eq_iff_iff]
                      simp only [decide_eq_true_eq, Bool.not_eq_true', decide_eq_false_iff_not]; omega
                    refine St.againH (k + 1) (by omega) (by first | omega | (dsimp only; omega)) (by repeat (first | exact Sub.nil | refine Sub.cons (by first | rfl | exact congrArg (fun z => some (iv z)) (by first | omega | (dsimp only; omega)) | exact congrArg (fun z => some (Value.bool z)) (by first | assumption | exact Eq.symm (by assumption))) ?_)) (fun _ hw => hw.sub)
                  · skip
                    refine St.takeg rfl rfl ?_
                    refine St.buildSl (xs := [(Operand.tmp 161)]) (ps := [(0, (Operand.tmp 161))]) rfl (Opds.cons (Opd.mk rfl) Opds.nil) Tryz.underlying23 sz9 zv9 rfl rfl (by simp [Value.cells]) rfl rfl (fun b162 => ?_)
                    refine St.publish (.slice (some ⟨b162, 0, none⟩) 1 1) strR [w] rfl rfl (fun x hx => by rw [List.mem_singleton.1 hx]; exact hwf1 w hwm) ?_
                    refine St.nil ?_
                    refine St.then_normal ?_
                    refine SW.go ?_
                    refine SW.turn1 (i := 6) (by kernel_rfl) rfl ?_
                    refine St.takeg rfl rfl ?_
                    refine St.buildSl (xs := [(Operand.tmp 156)]) (ps := [(0, (Operand.tmp 156))]) rfl (Opds.cons (Opd.mk rfl) Opds.nil) Tryz.underlying22 sz23 zv23 rfl rfl (by simp [J.cells_one u.2]) rfl rfl (fun b157 => ?_)
                    refine St.publish (.slice (some ⟨b157, 0, none⟩) 1 1) valR [u] (show _ = rows valR [u] by simp only [List.flatMap_cons, List.flatMap_nil, J.cells_one u.2]; rfl) rfl (fun _ _ => trivial) ?_
                    refine St.ptwNil strR ?_
                    refine St.ptwSnoc [] u (x := s) rfl ?_
                    simp only [List.nil_append]
                    refine St.mkNs (Rr := strR) (l := [s]) (.slice (some ⟨b157, 0, none⟩) 1 1) (vs := [u]) rfl ?_
                    refine St.nil ?_
                    refine St.then_normal ?_
                    refine SW.go ?_
                    refine SW.turn1 (i := 12) (by kernel_rfl) rfl ?_
                    refine St.takeg rfl rfl ?_
                    refine St.calld (PartHits_spec (.slice (some ⟨b157, 0, none⟩) 1 1) (.slice (some ⟨b162, 0, none⟩) 1 1) [s] [w] 0 hc1 (by simp) (by omega)) cb16 (Opds.cons (Opd.mk rfl) (Opds.cons (Opd.mk rfl) (Opds.cons (Opd.mk rfl) Opds.nil))) rfl ?_
                    rintro v163 _ ⟨h163, rfl⟩
                    refine St.app1 ?_
                    refine St.openH v163 (hitsW [s] [w] 0) (fun uwk huwk => ?_)
                    have hzk := zip_len huwk
                    have hcn := cnt_one (w := w) hs
                    refine St.nil ?_
                    refine St.then_normal ?_
                    refine SW.go ?_
                    refine SW.turn1 (i := 13) (by kernel_rfl) rfl ?_
                    refine St.takeg rfl rfl ?_
                    refine St.ev _ (Ev.lensl (Opd.mk rfl) Tryz.underlying36) rfl ?_
                    refine St.nil ?_
                    refine St.then_normal ?_
                    refine SW.go ?_
                    refine SW.gt 14 _ (by repeat (first | refine NP.then ?_ | refine NP.inBlock ?_ | exact NP.body)) (by kernel_rfl) rfl rfl rfl (fun R _ => Ev.gtr (Opd.mk rfl) (Opd.mk rfl)) (by kernel_rfl) rfl ?_
                    refine SW.slot 165 _ rfl (gv_true rfl _) ?_
                    refine SW.defer 15 (by repeat (first | refine NP.then ?_ | refine NP.inBlock ?_ | exact NP.body)) (by kernel_rfl) rfl (fun R => Ev.pickt (Opd.mk rfl) rfl (Opd.mk rfl)) (by kernel_rfl) rfl ?_
                    refine SW.defer 16 (by repeat (first | refine NP.then ?_ | refine NP.inBlock ?_ | exact NP.body)) (by kernel_rfl) rfl (fun R => Ev.assign (Opd.mk rfl)) (by kernel_rfl) rfl ?_
                    refine SW.done (by kernel_rfl) ?_
                    refine St.in_normal ?_
                    refine St.then_normal ?_
                    refine St.rg ?_
                    refine St.ev _ (Ev.move (Opd.mk rfl)) rfl ?_
                    refine St.ev _ (Ev.add (Opd.mk rfl) (Opd.mk rfl) (by omega)) rfl ?_
                    refine St.ev _ (Ev.assign (Opd.mk rfl)) rfl ?_
                    refine St.nil ?_
                    refine St.then_normal ?_
                    have hstep : decide ((0 : Int) < ((List.zipWith hdR (hitsW [s] [w] 0) uwk).length : Nat)) = hasAll l (ws.take (k + 1)) i := by
                      rw [hasAll_step hw, hs152, Bool.true_and, hzk, hw_len, hcn, Bool.eq_iff_iff]
                      simp only [decide_eq_true_eq, Bool.not_eq_true', decide_eq_false_iff_not]; omega
                    refine St.againH (k + 1) (by omega) (by first | omega | (dsimp only; omega)) (by repeat (first | exact Sub.nil | refine Sub.cons (by first | rfl | exact congrArg (fun z => some (iv z)) (by first | omega | (dsimp only; omega)) | exact congrArg (fun z => some (Value.bool z)) (by first | assumption | exact Eq.symm (by assumption))) ?_)) (fun _ hw => hw.sub)
                · skip
                  refine SW.gt 2 undef (by repeat (first | refine NP.then ?_ | refine NP.inBlock ?_ | exact NP.body)) (by kernel_rfl) rfl rfl rfl (fun R hg => by cases hg) (by kernel_rfl) rfl ?_
                  refine SW.slot 153 undef rfl (gv_false rfl _) ?_
                  refine SW.gt 3 undef (by repeat (first | refine NP.then ?_ | refine NP.inBlock ?_ | exact NP.body)) (by kernel_rfl) rfl rfl rfl (fun R hg => by cases hg) (by kernel_rfl) rfl ?_
                  refine SW.slot 154 undef rfl (gv_false rfl _) ?_
                  refine SW.gt 4 undef (by repeat (first | refine NP.then ?_ | refine NP.inBlock ?_ | exact NP.body)) (by kernel_rfl) rfl rfl rfl (fun R hg => by cases hg) (by kernel_rfl) rfl ?_
                  refine SW.slot 155 undef rfl (gv_false rfl _) ?_
                  refine SW.gt 5 undef (by repeat (first | refine NP.then ?_ | refine NP.inBlock ?_ | exact NP.body)) (by kernel_rfl) rfl rfl rfl (fun R hg => by cases hg) (by kernel_rfl) rfl ?_
                  refine SW.slot 156 undef rfl (gv_false rfl _) ?_
                  refine SW.gt 7 undef (by repeat (first | refine NP.then ?_ | refine NP.inBlock ?_ | exact NP.body)) (by kernel_rfl) rfl rfl rfl (fun R hg => by cases hg) (by kernel_rfl) rfl ?_
                  refine SW.slot 158 undef rfl (gv_false rfl _) ?_
                  refine SW.gt 8 undef (by repeat (first | refine NP.then ?_ | refine NP.inBlock ?_ | exact NP.body)) (by kernel_rfl) rfl rfl rfl (fun R hg => by cases hg) (by kernel_rfl) rfl ?_
                  refine SW.slot 159 undef rfl (gv_false rfl _) ?_
                  refine SW.gt 9 undef (by repeat (first | refine NP.then ?_ | refine NP.inBlock ?_ | exact NP.body)) (by kernel_rfl) rfl rfl rfl (fun R hg => by cases hg) (by kernel_rfl) rfl ?_
                  refine SW.slot 160 undef rfl (gv_false rfl _) ?_
                  refine SW.gt 10 undef (by repeat (first | refine NP.then ?_ | refine NP.inBlock ?_ | exact NP.body)) (by kernel_rfl) rfl rfl rfl (fun R hg => by cases hg) (by kernel_rfl) rfl ?_
                  refine SW.slot 161 undef rfl (gv_false rfl _) ?_
                  refine SW.turn2 (i := 6) (j := 11) (by kernel_rfl) rfl rfl ?_ ?_
                  · skip
                    refine St.skipg rfl rfl rfl ?_
                    refine St.nil ?_
                    refine St.then_normal ?_
                    refine SW.go ?_
                    refine SW.turn1 (i := 11) (by kernel_rfl) rfl ?_
                    refine St.skipg rfl rfl rfl ?_
                    refine St.nil ?_
                    refine St.then_normal ?_
                    refine SW.go ?_
                    refine SW.turn1 (i := 12) (by kernel_rfl) rfl ?_
                    refine St.skipg rfl rfl rfl ?_
                    refine St.nil ?_
                    refine St.then_normal ?_
                    refine SW.go ?_
                    refine SW.turn1 (i := 13) (by kernel_rfl) rfl ?_
                    refine St.skipg rfl rfl rfl ?_
                    refine St.nil ?_
                    refine St.then_normal ?_
                    refine SW.go ?_
                    refine SW.gt 14 undef (by repeat (first | refine NP.then ?_ | refine NP.inBlock ?_ | exact NP.body)) (by kernel_rfl) rfl rfl rfl (fun R hg => by cases hg) (by kernel_rfl) rfl ?_
                    refine SW.slot 165 undef rfl (gv_false rfl _) ?_
                    refine SW.defer 15 (by repeat (first | refine NP.then ?_ | refine NP.inBlock ?_ | exact NP.body)) (by kernel_rfl) rfl (fun R => Ev.pickf (Opd.mk rfl) rfl (Opd.mk rfl)) (by kernel_rfl) rfl ?_
                    refine SW.defer 16 (by repeat (first | refine NP.then ?_ | refine NP.inBlock ?_ | exact NP.body)) (by kernel_rfl) rfl (fun R => Ev.assign (Opd.mk rfl)) (by kernel_rfl) rfl ?_
                    refine SW.done (by kernel_rfl) ?_
                    refine St.in_normal ?_
                    refine St.then_normal ?_
                    refine St.rg ?_
                    refine St.ev _ (Ev.move (Opd.mk rfl)) rfl ?_
                    refine St.ev _ (Ev.add (Opd.mk rfl) (Opd.mk rfl) (by omega)) rfl ?_
                    refine St.ev _ (Ev.assign (Opd.mk rfl)) rfl ?_
                    refine St.nil ?_
                    refine St.then_normal ?_
                    have hstep : false = hasAll l (ws.take (k + 1)) i := by rw [hasAll_step hw, hs152]; rfl
                    refine St.againH (k + 1) (by omega) (by first | omega | (dsimp only; omega)) (by repeat (first | exact Sub.nil | refine Sub.cons (by first | rfl | exact congrArg (fun z => some (iv z)) (by first | omega | (dsimp only; omega)) | exact congrArg (fun z => some (Value.bool z)) (by first | assumption | exact Eq.symm (by assumption))) ?_)) (fun _ hw => hw.sub)
                  · skip
                    refine St.skipg rfl rfl rfl ?_
                    refine St.nil ?_
                    refine St.then_normal ?_
                    refine SW.go ?_
                    refine SW.turn1 (i := 6) (by kernel_rfl) rfl ?_
                    refine St.skipg rfl rfl rfl ?_
                    refine St.nil ?_
                    refine St.then_normal ?_
                    refine SW.go ?_
                    refine SW.turn1 (i := 12) (by kernel_rfl) rfl ?_
                    refine St.skipg rfl rfl rfl ?_
                    refine St.nil ?_
                    refine St.then_normal ?_
                    refine SW.go ?_
                    refine SW.turn1 (i := 13) (by kernel_rfl) rfl ?_
                    refine St.skipg rfl rfl rfl ?_
                    refine St.nil ?_
                    refine St.then_normal ?_
                    refine SW.go ?_
                    refine SW.gt 14 undef (by repeat (first | refine NP.then ?_ | refine NP.inBlock ?_ | exact NP.body)) (by kernel_rfl) rfl rfl rfl (fun R hg => by cases hg) (by kernel_rfl) rfl ?_
                    refine SW.slot 165 undef rfl (gv_false rfl _) ?_
                    refine SW.defer 15 (by repeat (first | refine NP.then ?_ | refine NP.inBlock ?_ | exact NP.body)) (by kernel_rfl) rfl (fun R => Ev.pickf (Opd.mk rfl) rfl (Opd.mk rfl)) (by kernel_rfl) rfl ?_
                    refine SW.defer 16 (by repeat (first | refine NP.then ?_ | refine NP.inBlock ?_ | exact NP.body)) (by kernel_rfl) rfl (fun R => Ev.assign (Opd.mk rfl)) (by kernel_rfl) rfl ?_
                    refine SW.done (by kernel_rfl) ?_
                    refine St.in_normal ?_
                    refine St.then_normal ?_
                    refine St.rg ?_
                    refine St.ev _ (Ev.move (Opd.mk rfl)) rfl ?_
                    refine St.ev _ (Ev.add (Opd.mk rfl) (Opd.mk rfl) (by omega)) rfl ?_
                    refine St.ev _ (Ev.assign (Opd.mk rfl)) rfl ?_
                    refine St.nil ?_
                    refine St.then_normal ?_
                    have hstep : false = hasAll l (ws.take (k + 1)) i := by rw [hasAll_step hw, hs152]; rfl
                    refine St.againH (k + 1) (by omega) (by first | omega | (dsimp only; omega)) (by repeat (first | exact Sub.nil | refine Sub.cons (by first | rfl | exact congrArg (fun z => some (iv z)) (by first | omega | (dsimp only; omega)) | exact congrArg (fun z => some (Value.bool z)) (by first | assumption | exact Eq.symm (by assumption))) ?_)) (fun _ hw => hw.sub)
              · skip
                try simp only [Bool.and_true, Bool.true_and, decide_eq_true_eq, decide_eq_false_iff_not, Bool.and_eq_true, Bool.or_eq_true, Bool.and_eq_false_iff, Bool.or_eq_false_iff, Bool.not_eq_true', Bool.not_eq_false', beq_iff_eq, beq_eq_false_iff_ne, Int.not_lt, Int.not_le] at h148
                obtain rfl : k = ws.length := by omega
                rw [List.take_length]
                refine St.exit ?_
                refine St.then_exit ?_
                refine St.then_exit ?_
                refine St.in_hit ?_
                refine St.then_normal ?_
                refine St.seq ?_
                refine St.rg ?_
                refine St.ev _ (Ev.move (Opd.mk rfl)) rfl ?_
                refine St.nil ?_
                refine St.then_normal ?_
                refine St.cond _ rfl (fun h167 => ?_) (fun h167 => ?_)
                · skip
                  skip
                  refine St.rg ?_
                  refine St.ev _ (Ev.move (Opd.mk rfl)) rfl ?_
                  refine St.ev _ (Ev.move (Opd.mk rfl)) rfl ?_
                  refine St.buildSl (xs := [(Operand.tmp 169)]) (ps := [(0, (Operand.tmp 169))]) rfl (Opds.cons (Opd.mk rfl) Opds.nil) Tryz.underlying25 sz3 zv3 rfl rfl (by simp [Value.cells]) rfl rfl (fun b170 => ?_)
                  refine St.appendRow (Opd.mk rfl) (Opd.mk rfl) Tryz.underlying25 sz3 zv3 by3 (by simp [Value.oneCell', Value.cells]) (by omega) (by omega) rfl rfl rfl rfl (fun v171 hv171 => ?_)
                  refine St.rowEqN v171 (show _ = ((List.range (i + 1)).filter (hasAll l ws)).length by rw [want_t h167]; exact len_snoc) (show _ = rows intR (ints ((List.range (i + 1)).filter (hasAll l ws))) from rowsI_snoc (want_t h167)) ?_
                  refine St.ev _ (Ev.assign (Opd.mk rfl)) rfl ?_
                  refine St.nil ?_
                  refine St.in_normal ?_
                  refine St.then_normal ?_
                  refine St.rg ?_
                  refine St.ev _ (Ev.move (Opd.mk rfl)) rfl ?_
                  refine St.ev _ (Ev.add (Opd.mk rfl) (Opd.mk rfl) (by omega)) rfl ?_
                  refine St.ev _ (Ev.assign (Opd.mk rfl)) rfl ?_
                  refine St.nil ?_
                  refine St.then_normal ?_
                  refine St.againH2 (i + 1) v171 (by omega) (by first | omega | (dsimp only; omega)) (by repeat (first | exact Sub.nil | refine Sub.cons (by first | rfl | exact congrArg (fun z => some (iv z)) (by first | omega | (dsimp only; omega)) | exact congrArg (fun z => some (Value.bool z)) (by first | assumption | exact Eq.symm (by assumption))) ?_)) (fun _ hw => hw.sub)
                · skip
                  skip
                  refine St.skip ?_
                  refine St.in_normal ?_
                  refine St.then_normal ?_
                  refine St.rg ?_
                  refine St.ev _ (Ev.move (Opd.mk rfl)) rfl ?_
                  refine St.ev _ (Ev.add (Opd.mk rfl) (Opd.mk rfl) (by omega)) rfl ?_
                  refine St.ev _ (Ev.assign (Opd.mk rfl)) rfl ?_
                  refine St.nil ?_
                  refine St.then_normal ?_
                  rw [← want_f h167]
                  refine St.againH2 (i + 1) z (by omega) (by first | omega | (dsimp only; omega)) (by repeat (first | exact Sub.nil | refine Sub.cons (by first | rfl | exact congrArg (fun z => some (iv z)) (by first | omega | (dsimp only; omega)) | exact congrArg (fun z => some (Value.bool z)) (by first | assumption | exact Eq.symm (by assumption))) ?_)) (fun _ hw => hw.sub)
            · skip
              try simp only [Bool.and_true, Bool.true_and, decide_eq_true_eq, decide_eq_false_iff_not, Bool.and_eq_true, Bool.or_eq_true, Bool.and_eq_false_iff, Bool.or_eq_false_iff, Bool.not_eq_true', Bool.not_eq_false', beq_iff_eq, beq_eq_false_iff_ne, Int.not_lt, Int.not_le] at h142
              obtain rfl : i = l.length := by omega
              refine St.publish z intR (ints ((List.range l.length).filter (hasAll l ws))) rfl (ints_length _).symm (wf_filter _ (by omega)) ?_
              refine St.exit ?_
              refine St.then_exit ?_
              refine St.then_exit ?_
              refine St.in_hit ?_
              refine St.then_normal ?_
              refine St.seq ?_
              refine St.rg ?_
              refine St.ev _ (Ev.fldb0 (Opd.mk rfl) fo30_0) rfl ?_
              refine St.ev _ (Ev.ldb (Opd.mk rfl) Tryz.underlying3 trivial (by rfl)) rfl ?_
              refine St.ev _ (Ev.eql (Opd.mk rfl) (Opd.mk rfl)) rfl ?_
              refine St.ev _ (Ev.move (Opd.mk rfl)) rfl ?_
              refine St.known 175 _ true rfl rfl ?_
              refine St.takeg rfl rfl ?_
              refine St.ev _ (Ev.move (Opd.mk rfl)) rfl ?_
              refine St.takeg rfl rfl ?_
              refine St.ev _ (Ev.move (Opd.mk rfl)) rfl ?_
              refine St.takeg rfl rfl ?_
              refine St.ev _ (Ev.call (sameInts_spec uw z (ints (withL l ws)) (ints ((List.range l.length).filter (hasAll l ws)))) cb22 (Opds.cons (Opd.mk rfl) (Opds.cons (Opd.mk rfl) Opds.nil))) rfl ?_
              refine St.ev _ (Ev.pickt (Opd.mk rfl) rfl (Opd.mk rfl)) rfl ?_
              refine St.ev _ (Ev.assign (Opd.mk rfl)) rfl ?_
              refine St.nil ?_
              refine St.then_normal ?_
              refine St.rett ?_
              refine St.rets [_] [] Tryz.results6 ⟨rfl, trivial⟩ ?_ (fun _ hw => hw.sub)
              exact be (by rw [withL_t (by rw [hwz])]; simp)

set_option maxHeartbeats 4000000 in
theorem law5_spec (v0 : Value) (l : List (List Str)) (w : Str) (hwz : w.length ≤ 140737488351232) : FnVw Tryz.prog 7 #[v0, sv w] [nsl strR v0 l, u8] (.bool true) := by
  refine FnVw.body (args := [v0, sv w]) (ds := [(nsl strR v0 l), u8]) 85 Tryz.func7 rfl Tryz.ntmps7 rfl (fun c hdr => ?_)
  change St _ _ (Mm c [dat (nsl strR v0 l), dat u8]) _
  refine St.seq ?_
  refine St.rg ?_
  refine St.ev _ (Ev.assign (Opd.mk rfl)) rfl ?_
  refine St.nil ?_
  refine St.then_normal ?_
  refine St.seq ?_
  refine St.seq ?_
  refine St.rg ?_
  refine St.ev _ (Ev.callW hdr ready_spec cb10 (Opds.nil)) rfl ?_
  refine St.ev _ (Ev.not (Opd.mk rfl)) rfl ?_
  refine St.nil ?_
  refine St.then_normal ?_
  refine St.condf _ rfl rfl ?_
  refine St.skip ?_
  refine St.then_normal ?_
  refine St.seq ?_
  refine St.rg ?_
  refine St.ev _ (Ev.move (Opd.mk rfl)) rfl ?_
  refine St.calldW hdr (Build_cspec v0 l) cb11 (Opds.cons (Opd.mk rfl) Opds.nil) rfl ?_
  rintro v17 _ ⟨vl, vw, vp, vo, vz, rfl, o1, o2, o3, o4, o5, rfl⟩
  refine St.app1 ?_
  have hcorp := okL_corp l
  refine St.ev _ (Ev.move (Opd.mk rfl)) rfl ?_
  refine St.ev _ (Ev.extract (Opd.mk rfl) rfl) rfl ?_
  refine St.ev _ (Ev.extract (Opd.mk rfl) rfl) rfl ?_
  refine St.alloc zc28 rfl (fun b5 => ?_)
  refine St.alloc zc30 rfl (fun b6 => ?_)
  refine St.storeA (Opd.mk rfl) (Opd.mk rfl) sz28 (by first | simp only [List.length_cons, List.length_nil] | rfl) (by simp [o1, o2, o3, o4, o5]) ?_
  refine St.storeA (Opd.mk rfl) (Opd.mk rfl) sz30 (by first | simp only [List.length_cons, List.length_nil] | rfl) rfl ?_
  refine St.nil ?_
  refine St.then_normal ?_
  refine St.seq ?_
  refine St.seq ?_
  refine St.rg ?_
  refine St.ev _ (Ev.fldb0 (Opd.mk rfl) fo30_0) rfl ?_
  refine St.ev _ (Ev.ldb (Opd.mk rfl) Tryz.underlying3 trivial (by rfl)) rfl ?_
  refine St.ev _ (Ev.neq (Opd.mk rfl) (Opd.mk rfl)) rfl ?_
  refine St.ev _ (Ev.move (Opd.mk rfl)) rfl ?_
  refine St.gf _ rfl rfl (fun hg => Ev.move (Opd.mk rfl)) rfl ?_
  refine St.gf _ rfl rfl (fun hg => Ev.call (IsWord_spec w (wlen hwz)) cb21 (Opds.cons (Opd.gv rfl hg) Opds.nil)) rfl ?_
  refine St.gf _ rfl rfl (fun hg => Ev.not (Opd.gv rfl hg)) rfl ?_
  refine St.ev _ (Ev.or (Opd.mk rfl) (fun hp => Opd.gv rfl hp)) rfl ?_
  refine St.nil ?_
  refine St.then_normal ?_
  refine St.cond _ rfl (fun h27 => ?_) (fun h27 => ?_)
  · skip
    try simp only [Bool.and_true, Bool.true_and, decide_eq_true_eq, decide_eq_false_iff_not, Bool.and_eq_true, Bool.or_eq_true, Bool.and_eq_false_iff, Bool.or_eq_false_iff, Bool.not_eq_true', Bool.not_eq_false', beq_iff_eq, beq_eq_false_iff_ne, Int.not_lt, Int.not_le] at h27
    refine St.seq ?_
    refine St.rg ?_
    refine St.ev _ (Ev.assign (Opd.mk rfl)) rfl ?_
    refine St.nil ?_
    refine St.then_normal ?_
    refine St.rett ?_
    refine St.then_ret ?_
    refine St.rets [_] [] Tryz.results7 ⟨rfl, trivial⟩ ?_ (fun _ hw => hw.sub)
    exact be rfl
  · skip
    try simp only [Bool.and_true, Bool.true_and, decide_eq_true_eq, decide_eq_false_iff_not, Bool.and_eq_true, Bool.or_eq_true, Bool.and_eq_false_iff, Bool.or_eq_false_iff, Bool.not_eq_true', Bool.not_eq_false', beq_iff_eq, beq_eq_false_iff_ne, Int.not_lt, Int.not_le] at h27
    obtain ⟨hcz, hww⟩ : (conF l).1 = 0 ∧ isWord w = true := ⟨by have := h27.1; omega, h27.2⟩
    rw [okL_t hcz] at hcorp ⊢
    have hf1 : withF [w] = (0, 0) := by simp [withF, partFrom, hww]
    have hf2 := hitF_3 (p := [w]) (w := 0) (by rw [part_one' hww]) (by omega)
    have hl3 := hitL_t (l := l) (p := [w]) (w := 0) (by rw [hf2])
    have hhl := hits_len hcorp [w]
    have hwl := hw_len l [w] 0
    have hwd := with_ded (l := l) hww
    have hl100 := hcorp.len
    refine St.skip ?_
    refine St.then_normal ?_
    refine St.seq ?_
    refine St.rg ?_
    refine St.ev _ (Ev.ldbA (Opd.mk rfl) Tryz.underlying28 trivial (by exact sz28)) rfl ?_
    refine St.ev _ (Ev.move (Opd.mk rfl)) rfl ?_
    refine St.buildSl (xs := [(Operand.tmp 30)]) (ps := [(0, (Operand.tmp 30))]) rfl (Opds.cons (Opd.mk rfl) Opds.nil) Tryz.underlying23 sz9 zv9 rfl rfl (by simp [Value.cells]) rfl rfl (fun b31 => ?_)
    refine St.publish (.slice (some ⟨b31, 0, none⟩) 1 1) strR [w] rfl rfl (fun x hx => by rw [List.mem_singleton.1 hx]; exact hwz) ?_
    refine St.calldW hdr (With_spec vl vw vp vo vz (.slice (some ⟨b31, 0, none⟩) 1 1) l [w] hcorp) cb20 (Opds.cons (Opd.mk rfl) (Opds.cons (Opd.mk rfl) Opds.nil)) rfl ?_
    rintro v32 _ ⟨uw, rfl, huw, rfl⟩
    refine St.app1 ?_
    refine St.ev _ (Ev.move (Opd.mk rfl)) rfl ?_
    refine St.ev _ (Ev.extract (Opd.mk rfl) rfl) rfl ?_
    refine St.ev _ (Ev.extract (Opd.mk rfl) rfl) rfl ?_
    refine St.alloc zc30 rfl (fun b8 => ?_)
    refine St.ev _ (Ev.assign (Opd.mk rfl)) rfl ?_
    refine St.storeA (Opd.mk rfl) (Opd.mk rfl) sz30 (by first | simp only [List.length_cons, List.length_nil] | rfl) rfl ?_
    refine St.nil ?_
    refine St.then_normal ?_
    refine St.seq ?_
    refine St.rg ?_
    refine St.ev _ (Ev.ldbA (Opd.mk rfl) Tryz.underlying28 trivial (by exact sz28)) rfl ?_
    refine St.ev _ (Ev.move (Opd.mk rfl)) rfl ?_
    refine St.buildSl (xs := [(Operand.tmp 37)]) (ps := [(0, (Operand.tmp 37))]) rfl (Opds.cons (Opd.mk rfl) Opds.nil) Tryz.underlying23 sz9 zv9 rfl rfl (by simp [Value.cells]) rfl rfl (fun b38 => ?_)
    refine St.publish (.slice (some ⟨b38, 0, none⟩) 1 1) strR [w] rfl rfl (fun x hx => by rw [List.mem_singleton.1 hx]; exact hwz) ?_
    refine St.calldW hdr (Hits_spec vl vw vp vo vz (.slice (some ⟨b38, 0, none⟩) 1 1) l [w] 0 hcorp) cb14 (Opds.cons (Opd.mk rfl) (Opds.cons (Opd.mk rfl) (Opds.cons (Opd.mk rfl) Opds.nil))) rfl ?_
    rintro v39 _ ⟨uh, rfl, huh, rfl⟩
    refine St.app1 ?_
    rw [hl3, hf2]
    refine St.openH uh (hitsW l [w] (Int.toNat 0)) (fun uws huws => ?_)
    rw [show Int.toNat 0 = 0 from rfl] at huws ⊢
    have hzl := zip_len huws
    refine St.ev _ (Ev.move (Opd.mk rfl)) rfl ?_
    refine St.ev _ (Ev.extract (Opd.mk rfl) rfl) rfl ?_
    refine St.ev _ (Ev.extract (Opd.mk rfl) rfl) rfl ?_
    refine St.alloc zc30 rfl (fun b10 => ?_)
    refine St.ev _ (Ev.assign (Opd.mk rfl)) rfl ?_
    refine St.storeA (Opd.mk rfl) (Opd.mk rfl) sz30 (by first | simp only [List.length_cons, List.length_nil] | rfl) rfl ?_
    refine St.nil ?_
    refine St.then_normal ?_
    refine St.seq ?_
    refine St.seq ?_
    refine St.rg ?_
    refine St.ev _ (Ev.fldb0 (Opd.mk rfl) fo30_0) rfl ?_
    refine St.ev _ (Ev.ldb (Opd.mk rfl) Tryz.underlying3 trivial (by rfl)) rfl ?_
    refine St.ev _ (Ev.neq (Opd.mk rfl) (Opd.mk rfl)) rfl ?_
    refine St.ev _ (Ev.move (Opd.mk rfl)) rfl ?_
    refine St.gf _ rfl rfl (fun hg => Ev.fldb0 (Opd.mk rfl) fo30_0) rfl ?_
    refine St.gf _ rfl rfl (fun hg => Ev.ldb (Opd.gv rfl hg) Tryz.underlying3 trivial (by rfl)) rfl ?_
    refine St.gf _ rfl rfl (fun hg => Ev.neq (Opd.gv rfl hg) (Opd.mk rfl)) rfl ?_
    refine St.ev _ (Ev.or (Opd.mk rfl) (fun hp => Opd.gv rfl hp)) rfl ?_
    refine St.nil ?_
    refine St.then_normal ?_
    refine St.condf _ rfl (by rw [hf1]; rfl) ?_
    refine St.skip ?_
    refine St.then_normal ?_
    refine St.seq ?_
    refine St.rg ?_
    refine St.buildSl (xs := []) (ps := []) rfl (Opds.nil) Tryz.underlying25 sz3 zv3 rfl rfl (by simp [Value.cells]) rfl rfl (fun b50 => ?_)
    refine St.ev _ (Ev.assign (Opd.mk rfl)) rfl ?_
    refine St.nil ?_
    refine St.then_normal ?_
    refine St.seq ?_
    refine St.seq ?_
    refine St.rg ?_
    refine St.ev _ (Ev.assign (Opd.mk rfl)) rfl ?_
    refine St.nil ?_
    refine St.then_normal ?_
    refine St.block ?_
    refine St.rowEqN (.slice (some ⟨b50, 0, none⟩) 0 0) (show _ = (dedN (((hitsOf l [w]).map Prod.fst).take 0)).length from rfl) (show _ = rows intR (ints (dedN (((hitsOf l [w]).map Prod.fst).take 0))) from rfl) ?_
    refine St.loopH2 (ι := Nat) (κ := Value) (fun k z T => (12, iv k) :: (11, z) :: T) (fun k z => [row z 3 1 (dedN (((hitsOf l [w]).map Prod.fst).take k)).length (rows intR (ints (dedN (((hitsOf l [w]).map Prod.fst).take k)))), dat (sl intR uw (ints (withL l [w]))), dat (sl hR4 uh (List.zipWith hdR (hitsW l [w] 0) uws))]) (fun k z => k ≤ (hitsOf l [w]).length) (fun k z => (hitsOf l [w]).length - k) 0 (.slice (some ⟨b50, 0, none⟩) 0 0) (Keep.cons 4 rfl (Keep.cons 7 rfl (Keep.cons 9 rfl Keep.nil))) (Nat.zero_le _) (by repeat (first | exact Sub.nil | refine Sub.cons (by first | rfl | exact congrArg (fun z => some (iv z)) (by first | omega | (dsimp only; omega)) | exact congrArg (fun z => some (Value.bool z)) (by first | assumption | exact Eq.symm (by assumption))) ?_)) (fun _ hw => hw.sub) ?_
    intro k z hk
    have hdl := ded_len (((hitsOf l [w]).map Prod.fst).take k)
    rw [List.length_take, List.length_map] at hdl
    refine St.seq ?_
    refine St.seq ?_
    refine St.rg ?_
    refine St.ev _ (Ev.move (Opd.mk rfl)) rfl ?_
    refine St.ev _ (Ev.move (Opd.mk rfl)) rfl ?_
    refine St.ev _ (Ev.lensl (Opd.mk rfl) Tryz.underlying36) rfl ?_
    refine St.ev _ (Ev.lss (Opd.mk rfl) (Opd.mk rfl)) rfl ?_
    refine St.nil ?_
    refine St.then_normal ?_
    refine St.cond _ rfl (fun h54 => ?_) (fun h54 => ?_)
    · skip
      try simp only [Bool.and_true, Bool.true_and, decide_eq_true_eq, decide_eq_false_iff_not, Bool.and_eq_true, Bool.or_eq_true, Bool.and_eq_false_iff, Bool.or_eq_false_iff, Bool.not_eq_true', Bool.not_eq_false', beq_iff_eq, beq_eq_false_iff_ne, Int.not_lt, Int.not_le] at h54
      obtain ⟨h, hh⟩ := some_of_lt (show k < (hitsOf l [w]).length by omega)
      obtain ⟨x, hxd, hx⟩ : ∃ x, x = mkH l [w] 0 h ∧ (hitsW l [w] 0)[k]? = some x := ⟨_, rfl, by unfold hitsW; rw [List.getElem?_map, hh]; rfl⟩
      obtain ⟨u, hu⟩ := some_of_lt (show k < uws.length by omega)
      have hX := zip_get hx hu
      have hxs : x.s = h.1 := by rw [hxd]; rfl
      have hxk : ((hitsOf l [w]).map Prod.fst)[k]? = some h.1 := by rw [List.getElem?_map, hh]; rfl
      refine St.skip ?_
      refine St.then_normal ?_
      refine St.seq ?_
      refine St.block ?_
      refine St.seq ?_
      refine St.rq mixed (by kernel_rfl) (Mm.drawn _ _) ?_
      refine Sq.ev _ (Ev.move (Opd.mk rfl)) rfl ?_
      refine Sq.ev _ (Ev.lenrow (Opd.mk rfl) Tryz.underlying25) rfl ?_
      refine Sq.ev _ (Ev.eql (Opd.mk rfl) (Opd.mk rfl)) rfl ?_
      refine Sq.ev _ (Ev.move (Opd.mk rfl)) rfl ?_
      refine Sq.gf _ rfl rfl (fun hg => Ev.move (Opd.mk rfl)) rfl ?_
      refine Sq.gf _ rfl rfl (fun hg => Ev.move (Opd.mk rfl)) rfl ?_
      refine Sq.gf _ rfl rfl (fun hg => Ev.lenrow (Opd.gv rfl hg) Tryz.underlying25) rfl ?_
      refine Sq.gf _ rfl rfl (fun hg => Ev.sub (Opd.gv rfl hg) (Opd.mk rfl) (by first | omega | (simp only [Bool.and_true, Bool.true_and, decide_eq_true_eq, decide_eq_false_iff_not, Bool.and_eq_true, Bool.or_eq_true, Bool.and_eq_false_iff, Bool.or_eq_false_iff, Bool.not_eq_true', Bool.not_eq_false', beq_iff_eq, beq_eq_false_iff_ne, Int.not_lt, Int.not_le] at hg; omega))) rfl ?_
      refine Sq.gf _ rfl rfl (fun hg => Ev.idxaddrrow (k := ((dedN (((hitsOf l [w]).map Prod.fst).take k)).length - 1)) (Opd.gv rfl hg) (Opd.gv rfl hg) Tryz.underlying25 sz3 (by first | omega | (simp only [Bool.and_true, Bool.true_and, decide_eq_true_eq, decide_eq_false_iff_not, Bool.and_eq_true, Bool.or_eq_true, Bool.and_eq_false_iff, Bool.or_eq_false_iff, Bool.not_eq_true', Bool.not_eq_false', beq_iff_eq, beq_eq_false_iff_ne, Int.not_lt, Int.not_le] at hg; omega)) (by first | omega | (simp only [Bool.and_true, Bool.true_and, decide_eq_true_eq, decide_eq_false_iff_not, Bool.and_eq_true, Bool.or_eq_true, Bool.and_eq_false_iff, Bool.or_eq_false_iff, Bool.not_eq_true', Bool.not_eq_false', beq_iff_eq, beq_eq_false_iff_ne, Int.not_lt, Int.not_le] at hg; omega))) rfl ?_
      refine Sq.gf _ rfl rfl (fun hg => Ev.ldrow (Opd.gv rfl hg) Tryz.underlying3 trivial (by first | omega | (simp only [Bool.and_true, Bool.true_and, decide_eq_true_eq, decide_eq_false_iff_not, Bool.and_eq_true, Bool.or_eq_true, Bool.and_eq_false_iff, Bool.or_eq_false_iff, Bool.not_eq_true', Bool.not_eq_false', beq_iff_eq, beq_eq_false_iff_ne, Int.not_lt, Int.not_le] at hg; omega)) (rowI2 (by first | omega | (simp only [Bool.and_true, Bool.true_and, decide_eq_true_eq, decide_eq_false_iff_not, Bool.and_eq_true, Bool.or_eq_true, Bool.and_eq_false_iff, Bool.or_eq_false_iff, Bool.not_eq_true', Bool.not_eq_false', beq_iff_eq, beq_eq_false_iff_ne, Int.not_lt, Int.not_le] at hg; omega)))) rfl ?_
      refine Sq.gf _ rfl rfl (fun hg => Ev.move (Opd.mk rfl)) rfl ?_
      refine Sq.gf _ rfl rfl (fun hg => Ev.move (Opd.mk rfl)) rfl ?_
      refine Sq.gf _ rfl rfl (fun hg => Ev.idxaddr (k := k) (Opd.gv rfl hg) (Opd.gv rfl hg) Tryz.underlying36 sz44 (by omega) (by omega)) rfl ?_
      refine Sq.gf _ rfl rfl (fun hg => Ev.fldel (Opd.gv rfl hg) (by omega) fo44_0) rfl ?_
      refine Sq.gf _ rfl rfl (fun hg => Ev.ld1 (Opd.gv rfl hg) hX Tryz.underlying3 trivial rfl) rfl ?_
      refine Sq.gf _ rfl rfl (fun hg => Ev.neq (Opd.gv rfl hg) (Opd.gv rfl hg)) rfl ?_
      refine Sq.ev _ (Ev.or (Opd.mk rfl) (fun hp => Opd.gv rfl hp)) rfl ?_
      refine Sq.nil ?_
      refine St.then_normal ?_
      refine St.cond _ rfl (fun h73 => ?_) (fun h73 => ?_)
      · skip
        replace h73 : _ := h73
        have hd := ded_t hxk (by
          have h73 : (decide ((((dedN (((hitsOf l [w]).map Prod.fst).take k)).length : Nat) : Int) = 0) || !decide ((((dedN (((hitsOf l [w]).map Prod.fst).take k)).getD ((dedN (((hitsOf l [w]).map Prod.fst).take k)).length - 1) 0 : Nat) : Int) = (x.s : Nat))) = true := h73
          simp only [Bool.or_eq_true, Bool.not_eq_true', decide_eq_true_eq, decide_eq_false_iff_not] at h73
          rw [hxs] at h73; omega)
        refine St.rg ?_
        refine St.ev _ (Ev.move (Opd.mk rfl)) rfl ?_
        refine St.ev _ (Ev.move (Opd.mk rfl)) rfl ?_
        refine St.ev _ (Ev.move (Opd.mk rfl)) rfl ?_
        refine St.ev _ (Ev.idxaddr (k := k) (Opd.mk rfl) (Opd.mk rfl) Tryz.underlying36 sz44 (by omega) (by omega)) rfl ?_
        refine St.ev _ (Ev.fldel (Opd.mk rfl) (by omega) fo44_0) rfl ?_
        refine St.ev _ (Ev.ld1 (Opd.mk rfl) hX Tryz.underlying3 trivial rfl) rfl ?_
        refine St.slot 79 (iv (h.1 : Nat)) rfl (congrArg (fun z : Nat => iv (z : Int)) hxs) ?_
        refine St.buildSl (xs := [(Operand.tmp 79)]) (ps := [(0, (Operand.tmp 79))]) rfl (Opds.cons (Opd.mk rfl) Opds.nil) Tryz.underlying25 sz3 zv3 rfl rfl (by simp [Value.cells]) rfl rfl (fun b80 => ?_)
        refine St.appendRow (Opd.mk rfl) (Opd.mk rfl) Tryz.underlying25 sz3 zv3 by3 (by simp [Value.oneCell', Value.cells]) (by omega) (by omega) rfl rfl rfl rfl (fun v81 hv81 => ?_)
        refine St.rowEqN v81 (show _ = (dedN (((hitsOf l [w]).map Prod.fst).take (k + 1))).length by rw [hd]; exact len_snoc) (show _ = rows intR (ints (dedN (((hitsOf l [w]).map Prod.fst).take (k + 1)))) from rowsI_snoc hd) ?_
        refine St.ev _ (Ev.assign (Opd.mk rfl)) rfl ?_
        refine St.nil ?_
        refine St.in_normal ?_
        refine St.then_normal ?_
        refine St.rg ?_
        refine St.ev _ (Ev.move (Opd.mk rfl)) rfl ?_
        refine St.ev _ (Ev.add (Opd.mk rfl) (Opd.mk rfl) (by omega)) rfl ?_
        refine St.ev _ (Ev.assign (Opd.mk rfl)) rfl ?_
        refine St.nil ?_
        refine St.then_normal ?_
        refine St.againH2 (k + 1) v81 (by omega) (by first | omega | (dsimp only; omega)) (by repeat (first | exact Sub.nil | refine Sub.cons (by first | rfl | exact congrArg (fun z => some (iv z)) (by first | omega | (dsimp only; omega)) | exact congrArg (fun z => some (Value.bool z)) (by first | assumption | exact Eq.symm (by assumption))) ?_)) (fun _ hw => hw.sub)
      · skip
        replace h73 : _ := h73
        have hd := ded_f hxk (by
          have h73 : (decide ((((dedN (((hitsOf l [w]).map Prod.fst).take k)).length : Nat) : Int) = 0) || !decide ((((dedN (((hitsOf l [w]).map Prod.fst).take k)).getD ((dedN (((hitsOf l [w]).map Prod.fst).take k)).length - 1) 0 : Nat) : Int) = (x.s : Nat))) = false := h73
          simp only [Bool.or_eq_false_iff, Bool.not_eq_false', decide_eq_true_eq, decide_eq_false_iff_not] at h73
          rw [hxs] at h73; omega)
        refine St.skip ?_
        refine St.in_normal ?_
        refine St.then_normal ?_
        refine St.rg ?_
        refine St.ev _ (Ev.move (Opd.mk rfl)) rfl ?_
        refine St.ev _ (Ev.add (Opd.mk rfl) (Opd.mk rfl) (by omega)) rfl ?_
        refine St.ev _ (Ev.assign (Opd.mk rfl)) rfl ?_
        refine St.nil ?_
        refine St.then_normal ?_
        rw [← hd]
        refine St.againH2 (k + 1) z (by omega) (by first | omega | (dsimp only; omega)) (by repeat (first | exact Sub.nil | refine Sub.cons (by first | rfl | exact congrArg (fun z => some (iv z)) (by first | omega | (dsimp only; omega)) | exact congrArg (fun z => some (Value.bool z)) (by first | assumption | exact Eq.symm (by assumption))) ?_)) (fun _ hw => hw.sub)
    · skip
      try simp only [Bool.and_true, Bool.true_and, decide_eq_true_eq, decide_eq_false_iff_not, Bool.and_eq_true, Bool.or_eq_true, Bool.and_eq_false_iff, Bool.or_eq_false_iff, Bool.not_eq_true', Bool.not_eq_false', beq_iff_eq, beq_eq_false_iff_ne, Int.not_lt, Int.not_le] at h54
      obtain rfl : k = (hitsOf l [w]).length := by omega
      rw [show (dedN (((hitsOf l [w]).map Prod.fst).take (hitsOf l [w]).length)) = dedN ((hitsOf l [w]).map Prod.fst) by rw [List.take_of_length_le (by rw [List.length_map]; exact Nat.le_refl _)]]
      refine St.publish z intR (ints (dedN ((hitsOf l [w]).map Prod.fst))) rfl (ints_length _).symm (by rw [← hwd, withL_t (by rw [hf1])]; exact wf_filter _ (by omega)) ?_
      refine St.exit ?_
      refine St.then_exit ?_
      refine St.then_exit ?_
      refine St.in_hit ?_
      refine St.then_normal ?_
      refine St.seq ?_
      refine St.rg ?_
      refine St.ev _ (Ev.move (Opd.mk rfl)) rfl ?_
      refine St.ev _ (Ev.move (Opd.mk rfl)) rfl ?_
      refine St.ev _ (Ev.call (sameInts_spec uw z (ints (withL l [w])) (ints (dedN ((hitsOf l [w]).map Prod.fst)))) cb22 (Opds.cons (Opd.mk rfl) (Opds.cons (Opd.mk rfl) Opds.nil))) rfl ?_
      refine St.ev _ (Ev.assign (Opd.mk rfl)) rfl ?_
      refine St.nil ?_
      refine St.then_normal ?_
      refine St.rett ?_
      refine St.rets [_] [] Tryz.results7 ⟨rfl, trivial⟩ ?_ (fun _ hw => hw.sub)
      exact be (by rw [hwd]; simp)

end Go.Proofs.YtgikcbfdonjggaaGreatDoor
