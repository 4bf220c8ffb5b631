/-
  The number of different parts, counted one by one, and the law of Distinct.
  Conditions: none.
-/
import Derived.Test.YtblmnncmkibhnaaW10
import Derived.Test.YtblmnncmkibhnaaSufM
set_option linter.unusedSimpArgs false
set_option linter.unusedVariables false
namespace Go.Proofs.Ytblmnncmkibhnaa
open Go Go.J

theorem sumN_le (c : Nat) {f : Nat → Nat} (h : ∀ k, f k ≤ c) : ∀ n : Nat, sumN n f ≤ c * n
  | 0 => Nat.le_refl _
  | n + 1 => by have := sumN_le c h n; have := h n; rw [sumN, Nat.mul_add]; omega
def fst1 (p : List Int) (i m : Nat) : Nat := if isFirst p i m = true then 1 else 0
theorem fst1_le (p : List Int) (i m : Nat) : fst1 p i m ≤ 1 := by unfold fst1; split <;> omega
def col (p : List Int) (i : Nat) : Nat := sumN p.length (fst1 p i)
theorem parts_col (p : List Int) : partsN p = sumN p.length (col p) := rfl
theorem col_le {p : List Int} (hn : p.length ≤ 2000) (i : Nat) : col p i ≤ 2000 := by
  have := sumN_le 1 (fst1_le p i) p.length
  unfold col; omega
theorem sumN_cut {f : Nat → Nat} {a : Nat} : ∀ {n : Nat}, a ≤ n → (∀ k, a ≤ k → f k = 0) → sumN n f = sumN a f
  | 0, h, _ => by obtain rfl : a = 0 := by omega
                  rfl
  | n + 1, h, h0 => by
    rcases Nat.lt_or_ge n a with q | q
    · obtain rfl : a = n + 1 := by omega
      rfl
    · rw [sumN, sumN_cut q h0, h0 n q]; omega
theorem col_cut {p : List Int} {i : Nat} : sumN (p.length - i) (fst1 p i) = col p i := by
  unfold col
  refine (sumN_cut (by omega) fun k hk => ?_).symm
  unfold fst1 isFirst
  by_cases h : i + (k + 1) ≤ p.length
  · omega
  · rw [decide_eq_false h, Bool.false_and]; rfl
theorem first_place {p : List Int} {i m : Nat} (h : i + (m + 1) ≤ p.length) : ∃ a, (placesOf p (pre p (m + 1) i))[0]? = some a ∧ (a = i ↔ isFirst p i m = true) := by
  have hl : (pre p (m + 1) i).length = m + 1 := by rw [pre_length]; omega
  have mem : ∀ k, k ∈ placesOf p (pre p (m + 1) i) ↔ k < p.length ∧ pre p (m + 1) k = pre p (m + 1) i := by
    intro k
    unfold placesOf
    rw [List.mem_filter, List.mem_range, decide_eq_true_eq, hl]
  have hi : i ∈ placesOf p (pre p (m + 1) i) := (mem i).2 ⟨by omega, rfl⟩
  have hs := placesOf_sorted p (pre p (m + 1) i)
  cases hpl : placesOf p (pre p (m + 1) i) with
  | nil => rw [hpl] at hi; cases hi
  | cons a r =>
    rw [hpl] at hi hs
    have ha := (mem a).1 (by rw [hpl]; exact List.mem_cons_self ..)
    refine ⟨a, rfl, ?_⟩
    unfold isFirst
    rw [decide_eq_true h, Bool.true_and, decide_eq_true_eq]
    constructor
    · rintro rfl
      intro k hk he
      have hk' := (mem k).2 ⟨by omega, he⟩
      rw [hpl] at hk'
      rcases List.mem_cons.1 hk' with q | q
      · omega
      · have := (List.pairwise_cons.1 hs).1 k q; omega
    · intro hf
      rcases List.mem_cons.1 hi with q | q
      · exact q.symm
      · have h1 := (List.pairwise_cons.1 hs).1 i q
        exact absurd ha.2 (hf a h1)

theorem Parts_spec (v0 : Value) (p : List Int) (hn : p.length ≤ 2000) : FnV Try.prog 22 #[v0] [sl intR v0 p] (iv (partsN p : Nat)) := by
  refine FnV.body1 (args := [v0]) 33 Try.func22 rfl Try.ntmps22 rfl (fun c => ?_)
  refine St.seq ?_
  refine St.rg ?_
  refine St.ev _ (Ev.assign (Opd.mk rfl)) rfl ?_
  refine St.nil ?_
  refine St.then_normal ?_
  refine St.seq ?_
  refine St.rg ?_
  refine St.ev _ (Ev.assign (Opd.mk rfl)) rfl ?_
  refine St.nil ?_
  refine St.then_normal ?_
  refine St.seq ?_
  refine St.seq ?_
  refine St.rg ?_
  refine St.ev _ (Ev.assign (Opd.mk rfl)) rfl ?_
  refine St.nil ?_
  refine St.then_normal ?_
  refine St.block ?_
  refine St.loopS (ι := Nat) (fun i T => (4, iv i) :: (3, iv (sumN i (col p) : Nat)) :: T) (fun i => i ≤ p.length) (fun i => p.length - i) 0 (Keep.cons 0 rfl (Keep.cons 2 rfl Keep.nil)) (Nat.zero_le _) (by repeat (first | exact Sub.nil | refine Sub.cons (by first | rfl | exact congrArg (fun z => some (iv z)) (by first | omega | (dsimp only; omega)) | exact congrArg (fun z => some (Value.bool z)) (by first | assumption | exact Eq.symm (by assumption))) ?_)) ?_
  intro i hphi
  refine St.seq ?_
  refine St.seq ?_
  refine St.rg ?_
  refine St.ev _ (Ev.move (Opd.mk rfl)) rfl ?_
  refine St.ev _ (Ev.move (Opd.mk rfl)) rfl ?_
  refine St.ev _ (Ev.lensl (Opd.mk rfl) Try.underlying22) rfl ?_
  refine St.ev _ (Ev.lss (Opd.mk rfl) (Opd.mk rfl)) rfl ?_
  refine St.nil ?_
  refine St.then_normal ?_
  refine St.cond _ rfl (fun h9 => ?_) (fun h9 => ?_)
  · skip
    try simp only [Bool.and_true, Bool.true_and, decide_eq_true_eq, decide_eq_false_iff_not, Bool.and_eq_true, Bool.or_eq_true, Bool.and_eq_false_iff, Bool.or_eq_false_iff, Bool.not_eq_true', Bool.not_eq_false', beq_iff_eq, beq_eq_false_iff_ne, Int.not_lt, Int.not_le] at h9
    refine St.skip ?_
    refine St.then_normal ?_
    refine St.seq ?_
    refine St.block ?_
    refine St.seq ?_
    refine St.rg ?_
    refine St.ev _ (Ev.move (Opd.mk rfl)) rfl ?_
    refine St.ev _ (Ev.add (Opd.mk rfl) (Opd.mk rfl) (by omega)) rfl ?_
    refine St.ev _ (Ev.assign (Opd.mk rfl)) rfl ?_
    refine St.nil ?_
    refine St.then_normal ?_
    refine St.block ?_
    have hsz : sumN 0 (fst1 p i) = 0 := rfl
    refine St.loopS (ι := Nat) (fun m T => (5, iv ((i : Int) + 1 + (m : Nat))) :: (3, iv ((sumN i (col p) : Nat) + (sumN m (fst1 p i) : Nat))) :: T) (fun m => i + m ≤ p.length) (fun m => p.length - m) 0 (Keep.cons 0 rfl (Keep.cons 2 rfl (Keep.cons 4 rfl Keep.nil))) (by omega) (by repeat (first | exact Sub.nil | refine Sub.cons (by first | rfl | exact congrArg (fun z => some (iv z)) (by first | omega | (dsimp only; omega)) | exact congrArg (fun z => some (Value.bool z)) (by first | assumption | exact Eq.symm (by assumption))) ?_)) ?_
    intro m hphi
    have hs1 := sumN_le 2000 (col_le hn) i
    have hs2 := sumN_le 1 (fst1_le p i) m
    refine St.seq ?_
    refine St.seq ?_
    refine St.rg ?_
    refine St.ev _ (Ev.move (Opd.mk rfl)) rfl ?_
    refine St.ev _ (Ev.move (Opd.mk rfl)) rfl ?_
    refine St.ev _ (Ev.lensl (Opd.mk rfl) Try.underlying22) rfl ?_
    refine St.ev _ (Ev.leq (Opd.mk rfl) (Opd.mk rfl)) rfl ?_
    refine St.nil ?_
    refine St.then_normal ?_
    refine St.cond _ rfl (fun h17 => ?_) (fun h17 => ?_)
    · skip
      try simp only [Bool.and_true, Bool.true_and, decide_eq_true_eq, decide_eq_false_iff_not, Bool.and_eq_true, Bool.or_eq_true, Bool.and_eq_false_iff, Bool.or_eq_false_iff, Bool.not_eq_true', Bool.not_eq_false', beq_iff_eq, beq_eq_false_iff_ne, Int.not_lt, Int.not_le] at h17
      have him : i + (m + 1) ≤ p.length := by omega
      obtain ⟨a, ha, haf⟩ := first_place him
      have hpl : (pre p (m + 1) i).length = m + 1 := by rw [pre_length]; omega
      have e0 : (ints (placesOf p (pre p (m + 1) i)))[0]? = some (a : Int) := by show ((placesOf p (pre p (m + 1) i)).map _)[0]? = _; rw [List.getElem?_map, ha]; rfl
      have hsm : sumN (m + 1) (fst1 p i) = sumN m (fst1 p i) + fst1 p i m := rfl
      refine St.part v0 i (i + m + 1) (by omega) (by omega) ?_
      rw [show intR.size = 1 from rfl, show (p.drop i).take (i + m + 1 - i) = pre p (m + 1) i by unfold pre; congr 1; omega]
      refine St.skip ?_
      refine St.then_normal ?_
      refine St.seq ?_
      refine St.block ?_
      refine St.seq ?_
      refine St.rg ?_
      refine St.ev _ (Ev.move (Opd.mk rfl)) rfl ?_
      refine St.ev _ (Ev.move (Opd.mk rfl)) rfl ?_
      refine St.ev _ (Ev.move (Opd.mk rfl)) rfl ?_
      refine St.ev _ (Ev.move (Opd.mk rfl)) rfl ?_
      refine St.ev _ (Ev.slicesl (l := i) (h := (i + m + 1)) (Opd.mk rfl) (Opd.mk rfl) (Opd.mk rfl) Try.underlying22 sz3 (by omega) (by omega) (by omega) (by omega)) rfl ?_
      refine St.calld (Places_spec v0 (slv v0 1 i (i + m + 1)) p (pre p (m + 1) i) hn (by omega)) cb18 (Opds.cons (Opd.mk rfl) (Opds.cons (Opd.mk rfl) Opds.nil)) rfl ?_
      rintro v25 _ ⟨h1, rfl⟩
      refine St.app1 ?_
      refine St.publish v25 intR (ints (placesOf p (pre p (m + 1) i))) rfl (ints_length _).symm (places_wf hn) ?_
      refine St.ev _ (Ev.idxaddr (k := 0) (Opd.mk rfl) (Opd.mk rfl) Try.underlying22 sz3 rfl (by have := (List.getElem?_eq_some_iff.1 e0).1; omega)) rfl ?_
      refine St.ev _ (Ev.ld1 (Opd.mk rfl) e0 Try.underlying3 trivial rfl) rfl ?_
      refine St.ev _ (Ev.move (Opd.mk rfl)) rfl ?_
      refine St.ev _ (Ev.eql (Opd.mk rfl) (Opd.mk rfl)) rfl ?_
      refine St.nil ?_
      refine St.then_normal ?_
      refine St.cond _ rfl (fun h29 => ?_) (fun h29 => ?_)
      · skip
        try simp only [Bool.and_true, Bool.true_and, decide_eq_true_eq, decide_eq_false_iff_not, Bool.and_eq_true, Bool.or_eq_true, Bool.and_eq_false_iff, Bool.or_eq_false_iff, Bool.not_eq_true', Bool.not_eq_false', beq_iff_eq, beq_eq_false_iff_ne, Int.not_lt, Int.not_le] at h29
        have hfi : fst1 p i m = 1 := by unfold fst1; rw [if_pos (haf.1 (by omega))]
        refine St.rg ?_
        refine St.ev _ (Ev.move (Opd.mk rfl)) rfl ?_
        refine St.ev _ (Ev.add (Opd.mk rfl) (Opd.mk rfl) (by omega)) rfl ?_
        refine St.ev _ (Ev.assign (Opd.mk rfl)) rfl ?_
        refine St.nil ?_
        refine St.in_normal ?_
        refine St.then_normal ?_
        refine St.rg ?_
        refine St.ev _ (Ev.move (Opd.mk rfl)) rfl ?_
        refine St.ev _ (Ev.add (Opd.mk rfl) (Opd.mk rfl) (by omega)) rfl ?_
        refine St.ev _ (Ev.assign (Opd.mk rfl)) rfl ?_
        refine St.nil ?_
        refine St.then_normal ?_
        refine St.againS (m + 1) (by omega) (by first | omega | (dsimp only; omega)) (by repeat (first | exact Sub.nil | refine Sub.cons (by first | rfl | exact congrArg (fun z => some (iv z)) (by first | omega | (dsimp only; omega)) | exact congrArg (fun z => some (Value.bool z)) (by first | assumption | exact Eq.symm (by assumption))) ?_)) (fun _ hw => hw.sub)
      · skip
        try simp only [Bool.and_true, Bool.true_and, decide_eq_true_eq, decide_eq_false_iff_not, Bool.and_eq_true, Bool.or_eq_true, Bool.and_eq_false_iff, Bool.or_eq_false_iff, Bool.not_eq_true', Bool.not_eq_false', beq_iff_eq, beq_eq_false_iff_ne, Int.not_lt, Int.not_le] at h29
        have hfi : fst1 p i m = 0 := by unfold fst1; rw [if_neg (fun q => by have := haf.2 q; omega)]
        refine St.skip ?_
        refine St.in_normal ?_
        refine St.then_normal ?_
        refine St.rg ?_
        refine St.ev _ (Ev.move (Opd.mk rfl)) rfl ?_
        refine St.ev _ (Ev.add (Opd.mk rfl) (Opd.mk rfl) (by omega)) rfl ?_
        refine St.ev _ (Ev.assign (Opd.mk rfl)) rfl ?_
        refine St.nil ?_
        refine St.then_normal ?_
        refine St.againS (m + 1) (by omega) (by first | omega | (dsimp only; omega)) (by repeat (first | exact Sub.nil | refine Sub.cons (by first | rfl | exact congrArg (fun z => some (iv z)) (by first | omega | (dsimp only; omega)) | exact congrArg (fun z => some (Value.bool z)) (by first | assumption | exact Eq.symm (by assumption))) ?_)) (fun _ hw => hw.sub)
    · skip
      try simp only [Bool.and_true, Bool.true_and, decide_eq_true_eq, decide_eq_false_iff_not, Bool.and_eq_true, Bool.or_eq_true, Bool.and_eq_false_iff, Bool.or_eq_false_iff, Bool.not_eq_true', Bool.not_eq_false', beq_iff_eq, beq_eq_false_iff_ne, Int.not_lt, Int.not_le] at h17
      obtain rfl : m = p.length - i := by omega
      rw [col_cut]
      have hsi : sumN (i + 1) (col p) = sumN i (col p) + col p i := rfl
      refine St.exit ?_
      refine St.then_exit ?_
      refine St.then_exit ?_
      refine St.in_hit ?_
      refine St.in_normal ?_
      refine St.then_normal ?_
      refine St.rg ?_
      refine St.ev _ (Ev.move (Opd.mk rfl)) rfl ?_
      refine St.ev _ (Ev.add (Opd.mk rfl) (Opd.mk rfl) (by omega)) rfl ?_
      refine St.ev _ (Ev.assign (Opd.mk rfl)) rfl ?_
      refine St.nil ?_
      refine St.then_normal ?_
      refine St.againS (i + 1) (by omega) (by first | omega | (dsimp only; omega)) (by repeat (first | exact Sub.nil | refine Sub.cons (by first | rfl | exact congrArg (fun z => some (iv z)) (by first | omega | (dsimp only; omega)) | exact congrArg (fun z => some (Value.bool z)) (by first | assumption | exact Eq.symm (by assumption))) ?_)) (fun _ hw => hw.sub)
  · skip
    try simp only [Bool.and_true, Bool.true_and, decide_eq_true_eq, decide_eq_false_iff_not, Bool.and_eq_true, Bool.or_eq_true, Bool.and_eq_false_iff, Bool.or_eq_false_iff, Bool.not_eq_true', Bool.not_eq_false', beq_iff_eq, beq_eq_false_iff_ne, Int.not_lt, Int.not_le] at h9
    obtain rfl : i = p.length := by omega
    refine St.exit ?_
    refine St.then_exit ?_
    refine St.then_exit ?_
    refine St.in_hit ?_
    refine St.then_normal ?_
    refine St.seq ?_
    refine St.rg ?_
    refine St.ev _ (Ev.move (Opd.mk rfl)) rfl ?_
    refine St.ev _ (Ev.assign (Opd.mk rfl)) rfl ?_
    refine St.nil ?_
    refine St.then_normal ?_
    refine St.rett ?_
    refine St.rets [_] [] Try.results22 ⟨rfl, trivial⟩ ?_ (fun _ hw => hw.sub)
    exact ie (by rw [parts_col])

theorem law7_spec (v0 : Value) (p : List Int) : FnV Try.prog 7 #[v0] [sl intR v0 p] (.bool true) := by
  refine FnV.body1 (args := [v0]) 42 Try.func7 rfl Try.ntmps7 rfl (fun c => ?_)
  refine St.seq ?_
  refine St.rg ?_
  refine St.ev _ (Ev.assign (Opd.mk rfl)) rfl ?_
  refine St.nil ?_
  refine St.then_normal ?_
  refine St.seq ?_
  refine St.seq ?_
  refine St.rg ?_
  refine St.ev _ (Ev.call (suffixReady_spec) cb11 (Opds.nil)) rfl ?_
  refine St.ev _ (Ev.not (Opd.mk rfl)) rfl ?_
  refine St.nil ?_
  refine St.then_normal ?_
  refine St.condf _ rfl rfl ?_
  refine St.skip ?_
  refine St.then_normal ?_
  refine St.seq ?_
  refine St.seq ?_
  refine St.rg ?_
  refine St.ev _ (Ev.move (Opd.mk rfl)) rfl ?_
  refine St.ev _ (Ev.lensl (Opd.mk rfl) Try.underlying22) rfl ?_
  refine St.ev _ (Ev.gtr (Opd.mk rfl) (Opd.mk rfl)) rfl ?_
  refine St.ev _ (Ev.move (Opd.mk rfl)) rfl ?_
  refine St.gt _ rfl rfl (fun hg => Ev.move (Opd.mk rfl)) rfl ?_
  refine St.gt _ rfl rfl (fun hg => Ev.lensl (Opd.gv rfl hg) Try.underlying22) rfl ?_
  refine St.gt _ rfl rfl (fun hg => Ev.leq (Opd.gv rfl hg) (Opd.mk rfl)) rfl ?_
  refine St.ev _ (Ev.and (Opd.mk rfl) (fun hp => Opd.gv rfl hp)) rfl ?_
  refine St.nil ?_
  refine St.then_normal ?_
  refine St.cond _ rfl (fun h15 => ?_) (fun h15 => ?_)
  · skip
    try simp only [Bool.and_true, Bool.true_and, decide_eq_true_eq, decide_eq_false_iff_not, Bool.and_eq_true, Bool.or_eq_true, Bool.and_eq_false_iff, Bool.or_eq_false_iff, Bool.not_eq_true', Bool.not_eq_false', beq_iff_eq, beq_eq_false_iff_ne, Int.not_lt, Int.not_le] at h15
    refine St.seq ?_
    refine St.rg ?_
    refine St.ev _ (Ev.assign (Opd.mk rfl)) rfl ?_
    refine St.nil ?_
    refine St.then_normal ?_
    refine St.rett ?_
    refine St.then_ret ?_
    refine St.rets [_] [] Try.results7 ⟨rfl, trivial⟩ ?_ (fun _ hw => hw.sub)
    exact be rfl
  · skip
    try simp only [Bool.and_true, Bool.true_and, decide_eq_true_eq, decide_eq_false_iff_not, Bool.and_eq_true, Bool.or_eq_true, Bool.and_eq_false_iff, Bool.or_eq_false_iff, Bool.not_eq_true', Bool.not_eq_false', beq_iff_eq, beq_eq_false_iff_ne, Int.not_lt, Int.not_le] at h15
    refine St.skip ?_
    refine St.then_normal ?_
    refine St.seq ?_
    refine St.rg ?_
    refine St.ev _ (Ev.move (Opd.mk rfl)) rfl ?_
    refine St.ev _ (Ev.call (Distinct_spec v0 p) cb21 (Opds.cons (Opd.mk rfl) Opds.nil)) rfl ?_
    refine St.ev _ (Ev.move (Opd.mk rfl)) rfl ?_
    refine St.ev _ (Ev.extract (Opd.mk rfl) rfl) rfl ?_
    refine St.ev _ (Ev.extract (Opd.mk rfl) rfl) rfl ?_
    refine St.alloc zc25 rfl (fun b4 => ?_)
    refine St.ev _ (Ev.assign (Opd.mk rfl)) rfl ?_
    refine St.storeA (Opd.mk rfl) (Opd.mk rfl) sz25 (by first | simp only [List.length_cons, List.length_nil] | rfl) rfl ?_
    refine St.nil ?_
    refine St.then_normal ?_
    refine St.seq ?_
    refine St.rg ?_
    refine St.ev _ (Ev.move (Opd.mk rfl)) rfl ?_
    refine St.ev _ (Ev.call (SuffixFault_spec v0 p) cb13 (Opds.cons (Opd.mk rfl) Opds.nil)) rfl ?_
    refine St.alloc zc25 rfl (fun b5 => ?_)
    refine St.storeA (Opd.mk rfl) (Opd.mk rfl) sz25 (by first | simp only [List.length_cons, List.length_nil] | rfl) rfl ?_
    refine St.nil ?_
    refine St.then_normal ?_
    refine St.seq ?_
    refine St.seq ?_
    refine St.rg ?_
    refine St.ev _ (Ev.fldb0 (Opd.mk rfl) fo25_0) rfl ?_
    refine St.ev _ (Ev.ldb (Opd.mk rfl) Try.underlying3 trivial (by rfl)) rfl ?_
    refine St.ev _ (Ev.neq (Opd.mk rfl) (Opd.mk rfl)) rfl ?_
    refine St.nil ?_
    refine St.then_normal ?_
    refine St.cond _ rfl (fun h25 => ?_) (fun h25 => ?_)
    · skip
      try simp only [Bool.and_true, Bool.true_and, decide_eq_true_eq, decide_eq_false_iff_not, Bool.and_eq_true, Bool.or_eq_true, Bool.and_eq_false_iff, Bool.or_eq_false_iff, Bool.not_eq_true', Bool.not_eq_false', beq_iff_eq, beq_eq_false_iff_ne, Int.not_lt, Int.not_le] at h25
      rw [disV_f h25]
      refine St.seq ?_
      refine St.rg ?_
      refine St.ev _ (Ev.ldbA (Opd.mk rfl) Try.underlying25 trivial (by exact sz25)) rfl ?_
      refine St.ev _ (Ev.ldbA (Opd.mk rfl) Try.underlying25 trivial (by exact sz25)) rfl ?_
      refine St.ev _ (Ev.structeql (Opd.mk rfl) (Opd.mk rfl) Try.eqGuardType25 (fun w => eqf25 _ _ _ _ w)) rfl ?_
      refine St.ev _ (Ev.move (Opd.mk rfl)) rfl ?_
      refine St.gt _ rfl rfl (fun hg => Ev.move (Opd.mk rfl)) rfl ?_
      refine St.gt _ rfl rfl (fun hg => Ev.eql (Opd.gv rfl hg) (Opd.mk rfl)) rfl ?_
      refine St.ev _ (Ev.and (Opd.mk rfl) (fun hp => Opd.gv rfl hp)) rfl ?_
      refine St.ev _ (Ev.assign (Opd.mk rfl)) rfl ?_
      refine St.nil ?_
      refine St.then_normal ?_
      refine St.rett ?_
      refine St.then_ret ?_
      refine St.rets [_] [] Try.results7 ⟨rfl, trivial⟩ ?_ (fun _ hw => hw.sub)
      exact be (by simp)
    · skip
      try simp only [Bool.and_true, Bool.true_and, decide_eq_true_eq, decide_eq_false_iff_not, Bool.and_eq_true, Bool.or_eq_true, Bool.and_eq_false_iff, Bool.or_eq_false_iff, Bool.not_eq_true', Bool.not_eq_false', beq_iff_eq, beq_eq_false_iff_ne, Int.not_lt, Int.not_le] at h25
      have hz : (sFault p).1 = 0 := by omega
      have hok := sFault_ok hz
      have hpe := parts_eq (sufOf_is p)
      rw [disV_t hz, ← hpe, hok.2]
      refine St.skip ?_
      refine St.then_normal ?_
      refine St.seq ?_
      refine St.rg ?_
      refine St.ev _ (Ev.fldb0 (Opd.mk rfl) fo25_0) rfl ?_
      refine St.ev _ (Ev.ldb (Opd.mk rfl) Try.underlying3 trivial (by rfl)) rfl ?_
      refine St.ev _ (Ev.eql (Opd.mk rfl) (Opd.mk rfl)) rfl ?_
      refine St.ev _ (Ev.move (Opd.mk rfl)) rfl ?_
      refine St.known 36 _ true rfl (by decide) ?_
      refine St.takeg rfl rfl ?_
      refine St.ev _ (Ev.move (Opd.mk rfl)) rfl ?_
      refine St.takeg rfl rfl ?_
      refine St.ev _ (Ev.move (Opd.mk rfl)) rfl ?_
      refine St.takeg rfl rfl ?_
      refine St.ev _ (Ev.call (Parts_spec v0 p hok.1) cb22 (Opds.cons (Opd.mk rfl) Opds.nil)) rfl ?_
      refine St.takeg rfl rfl ?_
      refine St.ev _ (Ev.eql (Opd.mk rfl) (Opd.mk rfl)) rfl ?_
      refine St.ev _ (Ev.pickt (Opd.mk rfl) rfl (Opd.mk rfl)) rfl ?_
      refine St.ev _ (Ev.assign (Opd.mk rfl)) rfl ?_
      refine St.nil ?_
      refine St.then_normal ?_
      refine St.rett ?_
      refine St.rets [_] [] Try.results7 ⟨rfl, trivial⟩ ?_ (fun _ hw => hw.sub)
      exact be (by simp)

end Go.Proofs.Ytblmnncmkibhnaa
