/-
  Regions that draw their order: operations that keep the assertion first, in whatever order, then the others in a forced order; and any order, one by one.
  Conditions: none; everything holds of any program.
-/
import Derived.Test.YteahhholjojfbaaDoorJ5
namespace Go.J
open Go

section
variable {P : Program} {ops : Array Oper} {C : World → Prop} {Q : Exit → Act → World → Prop}

/-- all edges lead back; guards too; each operation from m on waits for all before it -/
def headB (ops : Array Oper) (m : Nat) : Bool :=
  (List.range ops.size).all fun i => match ops[i]? with
    | some o => (o.after.all fun e => Nat.ble (e.on + 1) i) && (match o.guard with | some (j, _) => Nat.ble (j + 1) i | none => true) &&
      (Nat.ble (i + 1) m || (List.range i).all fun j => o.after.any fun e => Region.binds .any e && e.on == j)
    | none => false

theorem headB_edge {m i : Nat} {o : Oper} (h : headB ops m = true) (ho : ops[i]? = some o) : ∀ e ∈ o.after, e.on < i := by
  have hi : i < ops.size := (Array.getElem?_eq_some_iff.1 ho).1
  have h1 := List.all_eq_true.1 h i (List.mem_range.2 hi)
  simp only [ho, Bool.and_eq_true] at h1
  intro e he
  exact Nat.le_of_ble_eq_true ((Array.all_eq_true_iff_forall_mem.1 h1.1.1) e he)
theorem headB_guard {m i j : Nat} {b : Bool} {o : Oper} (h : headB ops m = true) (ho : ops[i]? = some o) (hg : o.guard = some (j, b)) : j < i := by
  have hi : i < ops.size := (Array.getElem?_eq_some_iff.1 ho).1
  have h1 := List.all_eq_true.1 h i (List.mem_range.2 hi)
  simp only [ho, hg, Bool.and_eq_true] at h1
  exact Nat.le_of_ble_eq_true h1.1.2
theorem headB_tail {m i j : Nat} {o : Oper} (h : headB ops m = true) (ho : ops[i]? = some o) (hm : m ≤ i) (hj : j < i) : ∃ e ∈ o.after, Region.binds .any e = true ∧ e.on = j := by
  have hi : i < ops.size := (Array.getElem?_eq_some_iff.1 ho).1
  have h1 := List.all_eq_true.1 h i (List.mem_range.2 hi)
  simp only [ho, Bool.and_eq_true, Bool.or_eq_true] at h1
  rcases h1.2 with h2 | h2
  · have := Nat.le_of_ble_eq_true h2; omega
  · have h3 := List.all_eq_true.1 h2 j (List.mem_range.2 hj)
    obtain ⟨e, he, hb⟩ := Array.any_eq_true'.1 h3
    simp only [Bool.and_eq_true, beq_iff_eq] at hb
    exact ⟨e, he, hb.1, hb.2⟩

/-- the first k operations have been, and no other -/
def upTo (k : Nat) (listed : Array Bool) (N : Nat) : Prop := listed.size = N ∧ ∀ j, j < N → listed[j]? = some (decide (j < k))

theorem upTo.getD {k N : Nat} {listed : Array Bool} (h : upTo k listed N) (j : Nat) (d : Bool) (hj : j < N) : listed.getD j d = decide (j < k) := by
  rw [Array.getD_eq_getD_getElem?, h.2 j hj]; rfl
theorem upTo.out {k N : Nat} {listed : Array Bool} (h : upTo k listed N) (j : Nat) (d : Bool) (hj : N ≤ j) : listed.getD j d = d := by
  rw [Array.getD_eq_getD_getElem?, Array.getElem?_eq_none (by rw [h.1]; exact hj)]; rfl

theorem upTo.set {k N : Nat} {listed : Array Bool} (h : upTo k listed N) : upTo (k + 1) (listed.setIfInBounds k true) N := by
  refine ⟨by simp [h.1], fun j hj => ?_⟩
  rw [Array.getElem?_setIfInBounds]
  by_cases e : k = j
  · subst e; simp [h.1, hj]
  · rw [if_neg e, h.2 j hj]; congr 1
    rw [Bool.eq_iff_iff]; simp only [decide_eq_true_eq]; omega

/-- behind the head the operations come one by one, in the order of the text -/
theorem wpAny_chain {m : Nat} (hB : headB ops m = true) : ∀ (l : List Oper) (k : Nat) (listed : Array Bool) (a : Act) (w : World), m ≤ k → (∀ j, l[j]? = ops[k + j]?) → k + l.length = ops.size → upTo k listed ops.size →
    wpList P ops Q l a w → wpAny P .any ops Q l.length listed a w
  | [], k, listed, a, w, _, _, hs, hu, h => by
    refine ⟨?_, h⟩
    unfold Region.ready
    rw [List.filter_eq_nil_iff]
    intro i hi
    have hi' := List.mem_range.1 hi
    have : listed.getD i true = true := by rw [hu.getD i true hi']; simp at hs; simp; omega
    simp [this]
  | o :: l, k, listed, a, w, hmk, hl, hs, hu, h => by
    have hk : k < ops.size := by simp at hs; omega
    have ho : ops[k]? = some o := by simpa using (hl 0).symm
    have hr : Region.ready .any ops listed = [k] := by
      have key : ∀ i, i < ops.size → ((!listed.getD i true && ((ops[i]?).map (·.after.all fun e => !Region.binds .any e || listed.getD e.on false)).getD false) = true ↔ i = k) := by
        intro i hi
        have hoi : ops[i]? = some ops[i] := Array.getElem?_eq_getElem hi
        rw [hu.getD i true hi, hoi]
        simp only [Option.map_some, Option.getD_some, Bool.and_eq_true, Bool.not_eq_true', decide_eq_false_iff_not]
        constructor
        · rintro ⟨h1, h2⟩
          rcases Nat.lt_or_ge k i with h3 | h3
          · obtain ⟨e, he, hb, hon⟩ := headB_tail hB hoi (by omega) h3
            have := (Array.all_eq_true_iff_forall_mem.1 h2) e he
            rw [hb, hon, hu.getD k false hk] at this
            simp at this
          · omega
        · rintro rfl
          refine ⟨by omega, Array.all_eq_true_iff_forall_mem.2 fun e he => ?_⟩
          have h1 := headB_edge hB hoi e he
          rw [hu.getD e.on false (by omega)]
          simp [h1]
      unfold Region.ready
      have h1 : ∀ (N : Nat), N ≤ ops.size → (List.range N).filter (fun i => !listed.getD i true && ((ops[i]?).map (·.after.all fun e => !Region.binds .any e || listed.getD e.on false)).getD false) = if k < N then [k] else [] := by
        intro N
        induction N with
        | zero => intro _; simp
        | succ N ih =>
          intro hN
          rw [List.range_succ, List.filter_append, ih (by omega)]
          have h2 := key N (by omega)
          by_cases e : N = k
          · subst e
            have h3 := h2.2 rfl
            simp only [List.filter_cons, h3, if_true, List.filter_nil]
            simp
          · have h3 : ¬ _ := fun h => e (h2.1 h)
            simp only [List.filter_cons, h3, if_false, List.filter_nil, List.append_nil]
            by_cases e2 : k < N
            · simp [e2, show k < N + 1 by omega]
            · simp [e2, show ¬ k < N + 1 by omega]
      rw [h1 ops.size (Nat.le_refl _), if_pos hk]
    refine wpAny_all (rs := [k]) hr (by simp) ?_
    intro i hi
    simp only [List.mem_singleton] at hi
    subst hi
    unfold wpOp
    rw [ho]
    simp only [wpList] at h
    have ih := wpAny_chain hB l (i + 1) (listed.setIfInBounds i true)
    have ih' : ∀ a w, wpList P ops Q l a w → wpAny P .any ops Q l.length (listed.setIfInBounds i true) a w := fun a w h =>
      ih a w (by omega) (fun j => by have := hl (j + 1); simpa [Nat.add_assoc, Nat.add_comm 1 j] using this) (by simp at hs ⊢; omega) hu.set h
    simp only
    split
    · rename_i hw
      simp only [hw, if_true] at h
      exact h.imp (Oper.wp_mono ih') id
    · rename_i hw
      simp only [hw] at h
      exact ih' _ _ h

theorem head_ready_ne {ops' : Array Oper} {listed : Array Bool} (hs : listed.size = ops'.size) (hE : ∀ (i : Nat) (o : Oper), ops'[i]? = some o → ∀ e ∈ o.after, e.on < i) (hu : ∃ i, i < ops'.size ∧ listed.getD i true = false) : Region.ready .any ops' listed ≠ [] := by
  obtain ⟨i, hi⟩ := exists_least hu
  obtain ⟨⟨hi1, hi2⟩, hmin⟩ := hi
  intro h0
  have : i ∈ Region.ready .any ops' listed := by
    refine mem_ready.2 ⟨hi2, ops'[i], Array.getElem?_eq_getElem hi1, fun e he _ => ?_⟩
    have h1 := hE i _ (Array.getElem?_eq_getElem hi1) e he
    have hlt : e.on < listed.size := by omega
    cases hl : listed.getD e.on true with
    | false =>
      have := hmin e.on ⟨by omega, hl⟩
      omega
    | true => rw [Array.getD_eq_getD_getElem?, Array.getElem?_eq_getElem hlt] at hl ⊢; exact hl
  rw [h0] at this
  cases this

theorem yielded_head {ops' : Array Oper} {m j : Nat} {tmps : Array Value} (hh : ∀ j, j < m → ops'[j]? = ops[j]?) (hj : j < m) : yielded ops' tmps j = yielded ops tmps j := by
  unfold yielded; rw [hh j hj]

theorem head_sim {ops' : Array Oper} {m : Nat} {Qa : Act → Prop} (hB : headB ops m = true) (hm : ops'.size = m) (hmN : m ≤ ops.size) (hh : ∀ j, j < m → ops'[j]? = ops[j]?)
    (hQ : ∀ a', Qa a' → ∀ w', C w' → ∀ listed, upTo m listed ops.size → wpAny P .any ops Q (ops.size - m) listed a' w') :
    ∀ (f : Nat) (listed' listed : Array Bool) (a : Act) (w : World), listed'.size = m → listed.size = ops.size → (∀ j, j < m → listed[j]? = listed'[j]?) → (∀ j, m ≤ j → j < ops.size → listed[j]? = some false) →
      listed'.toList.count false = f → wpAnyQ P .any ops' C Qa f listed' a → C w → wpAny P .any ops Q (f + (ops.size - m)) listed a w := by
  intro f
  induction f with
  | zero =>
    intro listed' listed a w hs' hs h1 h2 hc h hw
    rw [Nat.zero_add]
    refine hQ a h.2 w hw listed ⟨hs, fun j hj => ?_⟩
    by_cases hjm : j < m
    · have h3 := List.count_eq_zero.1 hc
      rw [h1 j hjm]
      have hlt : j < listed'.size := by omega
      rw [Array.getElem?_eq_getElem hlt]
      cases hv : listed'[j] with
      | true => simp [hjm]
      | false => exact absurd (by rw [← hv]; simp) h3
    · rw [h2 j (by omega) hj]; simp [hjm]
  | succ f ih =>
    intro listed' listed a w hs' hs h1 h2 hc h hw
    have hex : ∃ i, i < ops'.size ∧ listed'.getD i true = false := by
      have h3 : false ∈ listed'.toList := by
        rw [← List.count_pos_iff]; omega
      obtain ⟨i, hi, he⟩ := List.mem_iff_getElem.1 h3
      simp only [Array.length_toList] at hi
      refine ⟨i, by omega, ?_⟩
      rw [Array.getD_eq_getD_getElem?, Array.getElem?_eq_getElem hi]
      simpa using he
    have hE' : ∀ (i : Nat) (o : Oper), ops'[i]? = some o → ∀ e ∈ o.after, e.on < i := by
      intro i o ho
      have hi : i < ops'.size := (Array.getElem?_eq_some_iff.1 ho).1
      rw [hh i (by omega)] at ho
      exact headB_edge hB ho
    have hne := head_ready_ne (by omega) hE' hex
    have hmem : ∀ i, i ∈ Region.ready .any ops listed ↔ i ∈ Region.ready .any ops' listed' := by
      intro i
      rw [mem_ready, mem_ready]
      by_cases hi : i < m
      · rw [hh i hi]
        have e1 : listed.getD i true = listed'.getD i true := by rw [Array.getD_eq_getD_getElem?, Array.getD_eq_getD_getElem?, h1 i hi]
        rw [e1]
        constructor
        · rintro ⟨q1, o, q2, q3⟩
          refine ⟨q1, o, q2, fun e he hb => ?_⟩
          have := headB_edge hB q2 e he
          have q4 := q3 e he hb
          rwa [Array.getD_eq_getD_getElem?, h1 e.on (by omega), ← Array.getD_eq_getD_getElem?] at q4
        · rintro ⟨q1, o, q2, q3⟩
          refine ⟨q1, o, q2, fun e he hb => ?_⟩
          have := headB_edge hB q2 e he
          have q4 := q3 e he hb
          rwa [Array.getD_eq_getD_getElem?, h1 e.on (by omega), ← Array.getD_eq_getD_getElem?]
      · constructor
        · rintro ⟨q1, o, q2, q3⟩
          exfalso
          obtain ⟨k, hk, hk2⟩ := hex
          obtain ⟨e, he, hb, hon⟩ := headB_tail hB q2 (by omega) (show k < i by omega)
          have q4 := q3 e he hb
          rw [hon, Array.getD_eq_getD_getElem?, h1 k (by omega)] at q4
          have hlt : k < listed'.size := by omega
          rw [Array.getD_eq_getD_getElem?, Array.getElem?_eq_getElem hlt] at hk2
          rw [Array.getElem?_eq_getElem hlt] at q4
          simp only [Option.getD_some] at hk2 q4
          rw [hk2] at q4; cases q4
        · rintro ⟨q1, o, q2, _⟩
          have := (Array.getElem?_eq_some_iff.1 q2).1
          omega
    rw [show f + 1 + (ops.size - m) = (f + (ops.size - m)) + 1 by omega]
    refine ⟨fun h0 => ?_, fun i hi => ?_⟩
    · exfalso
      cases hr : Region.ready .any ops' listed' with
      | nil => exact hne hr
      | cons i l =>
        have := (hmem i).2 (by rw [hr]; exact List.mem_cons_self ..)
        rw [h0] at this; cases this
    · have hi' := (hmem i).1 hi
      have hq := h.2 i hi'
      obtain ⟨q1, o, q2, q3⟩ := mem_ready.1 hi'
      have him : i < m := by have := (Array.getElem?_eq_some_iff.1 q2).1; omega
      have hli : listed'[i]? = some false := by
        have hlt : i < listed'.size := by omega
        rw [Array.getD_eq_getD_getElem?, Array.getElem?_eq_getElem hlt] at q1
        rw [Array.getElem?_eq_getElem hlt]
        simpa using q1
      have next : ∀ a' w', C w' → wpAnyQ P .any ops' C Qa f (listed'.setIfInBounds i true) a' → wpAny P .any ops Q (f + (ops.size - m)) (listed.setIfInBounds i true) a' w' := by
        intro a' w' hw' hk
        refine ih (listed'.setIfInBounds i true) (listed.setIfInBounds i true) a' w' (by simp [hs']) (by simp [hs]) ?_ ?_ ?_ hk hw'
        · intro j hj
          rw [Array.getElem?_setIfInBounds, Array.getElem?_setIfInBounds, h1 j hj]
          by_cases e : i = j
          · subst e; simp only [if_true]; rw [if_pos (by omega), if_pos (by omega)]
          · simp only [e, if_false]
        · intro j hj hjN
          rw [Array.getElem?_setIfInBounds, if_neg (by omega)]
          exact h2 j hj hjN
        · rw [Array.toList_setIfInBounds, List.count_set (by simp; omega)]
          have hlt : i < listed'.size := by omega
          have he : listed'.toList[i]'(by simpa using hlt) = false := by
            rw [Array.getElem?_eq_getElem hlt] at hli; simpa using hli
          rw [he]
          simp only [beq_self_eq_true, if_true]
          rw [hc]; simp
      unfold wpOp
      unfold qOp at hq
      have ho : ops[i]? = some o := by rw [← hh i him]; exact q2
      rw [ho]
      rw [q2] at hq
      have hwant : Region.wanted o (yielded ops' a.tmps) = Region.wanted o (yielded ops a.tmps) := by
        unfold Region.wanted
        split
        · rfl
        · rename_i j b hg
          have := headB_guard hB ho hg
          rw [yielded_head hh (by omega)]
      simp only [hwant] at hq
      simp only
      split
      · rename_i hwt
        simp only [hwt, if_true] at hq
        exact .inl (Oper.wp_of_quiet hw next hq)
      · rename_i hwt
        simp only [hwt] at hq
        exact next _ w hw hq

/-- a region that draws its order: all but the last operations keep the assertion; the last ones wait for all before them -/
theorem St.rqt {n : Nat} {F : Fr} {A : World → Prop} {id : Nat} (hd tl : List Oper) {l : List Oper} (hl : l = hd ++ tl) (hm : P.follows .mixedOrders = true) (hB : Region.lexB .any hd.toArray = true) (hB2 : headB l.toArray hd.length = true) (hA : Drawn A)
    (h : Sq n F (wpQuiet P hd.toArray A (fun a' => ∀ w', A w' → wpList P l.toArray Q tl a' w') hd)) : St n F A ((Code.region id l.toArray true).wp P Q) := by
  intro a w ha hw
  subst hl
  simp only [Region.lexB, Bool.and_eq_true] at hB
  refine wp_region_any hm ?_
  have hlex := wpAnyQ_lex (P := P) (C := A) (md := .any) (ops := hd.toArray) hB.1 hd 0 (Array.replicate hd.toArray.size false) a (by simp) (by simpa using hB.2) (h a ha)
  have hsz : (hd ++ tl).toArray.size = hd.length + ((hd ++ tl).toArray.size - hd.length) := by simp
  rw [hsz]
  refine head_sim (ops' := hd.toArray) hB2 (by simp) (by simp) (fun j hj => ?_) ?_ hd.length _ _ a _ (by simp) (by simp) ?_ ?_ ?_ hlex (hA w hw)
  · simp [List.getElem?_append_left hj]
  · intro a' ha' w' hw' listed hu
    have h1 := wpAny_chain (P := P) (Q := Q) hB2 tl hd.length listed a' w' (Nat.le_refl _) (fun j => by simp [List.getElem?_append_right]) (by simp) hu (ha' w' hw')
    have h2 : (hd ++ tl).toArray.size - hd.length = tl.length := by simp
    rw [h2]; exact h1
  · intro j hj
    rw [Array.getElem?_replicate, Array.getElem?_replicate, if_pos (by simp; omega), if_pos (by simpa using hj)]
  · intro j hj hjN
    rw [Array.getElem?_replicate, if_pos (by simpa using hjN)]
  · simp

/-- any order, step by step -/
theorem St.any {n : Nat} {F : Fr} {A : World → Prop} {id : Nat} {l : List Oper} (hm : P.follows .mixedOrders = true) (hA : Drawn A)
    (h : St n F A (wpAny P .any l.toArray Q l.length (Array.replicate l.length false))) : St n F A ((Code.region id l.toArray true).wp P Q) :=
  fun a w ha hw => wp_region_any hm (by simpa using h a _ ha (hA w hw))

theorem St.one {n : Nat} {F : Fr} {A : World → Prop} {i : Nat} {o : Oper} {K : Act → World → Prop} (ho : ops[i]? = some o) (h : St n F A (wpList P ops (Exit.then K Q) [o])) : St n F A (wpOp P ops Q i K) := by
  intro a w ha hw
  have h1 := h a w ha hw
  unfold wpOp
  rw [ho]
  simp only [wpList] at h1
  simp only
  split
  · rename_i hwt
    simp only [hwt, if_true] at h1
    rcases h1 with h1 | ⟨h1, a0, w0, h2⟩
    · refine .inl ?_
      unfold Oper.wp at h1 ⊢
      generalize (execOp a.eval o).run P w = r at h1 ⊢
      cases r with
      | ok nx w' =>
        cases nx <;> simp only [Oper.upon] at h1 ⊢ <;>
          first
            | exact h1
            | exact Calls.mono h1 (fun e w'' he => by cases e <;> exact he)
            | exact Rows.mono h1 (fun _ _ he => he)
      | halt x w' => cases x <;> simp only [Oper.upon] at h1 ⊢ <;> exact h1
    · exact .inr ⟨h1, a0, w0, h2⟩
  · rename_i hwt
    simp only [hwt] at h1
    exact h1

theorem St.any_done {n : Nat} {F : Fr} {A : World → Prop} {f : Nat} {listed : Array Bool} (hr : Region.ready .any ops listed = []) (h : St n F A (Q .normal)) : St n F A (wpAny P .any ops Q f listed) :=
  fun a w ha hw => wpAny_done hr (h a w ha hw) f
theorem St.any1 {n : Nat} {F : Fr} {A : World → Prop} {f i : Nat} {o : Oper} {listed : Array Bool} (hr : Region.ready .any ops listed = [i]) (ho : ops[i]? = some o)
    (h : St n F A (wpList P ops (Exit.then (wpAny P .any ops Q f (listed.setIfInBounds i true)) Q) [o])) : St n F A (wpAny P .any ops Q (f + 1) listed) :=
  fun a w ha hw => wpAny_all hr (by simp) (by simpa using St.one ho h a w ha hw)
theorem St.any2 {n : Nat} {F : Fr} {A : World → Prop} {f i j : Nat} {o o' : Oper} {listed : Array Bool} (hr : Region.ready .any ops listed = [i, j]) (ho : ops[i]? = some o) (ho' : ops[j]? = some o')
    (h : St n F A (wpList P ops (Exit.then (wpAny P .any ops Q f (listed.setIfInBounds i true)) Q) [o])) (h' : St n F A (wpList P ops (Exit.then (wpAny P .any ops Q f (listed.setIfInBounds j true)) Q) [o'])) : St n F A (wpAny P .any ops Q (f + 1) listed) :=
  fun a w ha hw => wpAny_all hr (by simp) (by
    intro k hk
    simp only [List.mem_cons, List.not_mem_nil, or_false] at hk
    rcases hk with rfl | rfl
    · exact St.one ho h a w ha hw
    · exact St.one ho' h' a w ha hw)
theorem St.any3 {n : Nat} {F : Fr} {A : World → Prop} {f i j k : Nat} {o o' o'' : Oper} {listed : Array Bool} (hr : Region.ready .any ops listed = [i, j, k]) (ho : ops[i]? = some o) (ho' : ops[j]? = some o') (ho'' : ops[k]? = some o'')
    (h : St n F A (wpList P ops (Exit.then (wpAny P .any ops Q f (listed.setIfInBounds i true)) Q) [o])) (h' : St n F A (wpList P ops (Exit.then (wpAny P .any ops Q f (listed.setIfInBounds j true)) Q) [o']))
    (h'' : St n F A (wpList P ops (Exit.then (wpAny P .any ops Q f (listed.setIfInBounds k true)) Q) [o''])) : St n F A (wpAny P .any ops Q (f + 1) listed) :=
  fun a w ha hw => wpAny_all hr (by simp) (by
    intro q hk
    simp only [List.mem_cons, List.not_mem_nil, or_false] at hk
    rcases hk with rfl | rfl | rfl
    · exact St.one ho h a w ha hw
    · exact St.one ho' h' a w ha hw
    · exact St.one ho'' h'' a w ha hw)

class Split (m : Nat) (l : List Oper) (hd tl : outParam (List Oper)) : Prop where
  eq : l = hd ++ tl
  len : hd.length = m
instance Split.zero (l : List Oper) : Split 0 l [] l := ⟨rfl, rfl⟩
instance Split.succ (m : Nat) (o : Oper) (l hd tl : List Oper) [h : Split m l hd tl] : Split (m + 1) (o :: l) (o :: hd) tl := ⟨by rw [h.eq]; rfl, by rw [List.length_cons, h.len]⟩

theorem St.rqs {n : Nat} {F : Fr} {A : World → Prop} {id : Nat} {l hd tl : List Oper} (m : Nat) [sp : Split m l hd tl] (hm : P.follows .mixedOrders = true) (hB : Region.lexB .any hd.toArray = true) (hB2 : headB l.toArray m = true) (hA : Drawn A)
    (h : Sq n F (wpQuiet P hd.toArray A (fun a' => ∀ w', A w' → wpList P l.toArray Q tl a' w') hd)) : St n F A ((Code.region id l.toArray true).wp P Q) :=
  St.rqt hd tl sp.eq hm hB (by rw [sp.len]; exact hB2) hA h

theorem Sq.tail {n : Nat} {F : Fr} {A : World → Prop} {ops' : Array Oper} {tl : List Oper} (h : St n F A (wpList P ops Q tl)) : Sq n F (wpQuiet P ops' A (fun a' => ∀ w', A w' → wpList P ops Q tl a' w') []) := fun a ha w hw => h a w ha hw
end
end Go.J
