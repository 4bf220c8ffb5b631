/-
  The walks of the order by insertion, of the places, and of the search for a part.
  Conditions: none beyond the sizes.
-/
import Derived.Test.YtblmnncmkibhnaaW4
import Derived.Test.YtblmnncmkibhnaaJ17
import Derived.Test.YtblmnncmkibhnaaLay2
set_option linter.unusedSimpArgs false
set_option linter.unusedVariables false
namespace Go.Proofs.Ytblmnncmkibhnaa
open Go Go.J

noncomputable def fnd (p ord part : List Int) : List Nat := if (bothF p ord).1 = 0 then placesOf p part else []
theorem fnd_t {p ord part : List Int} (h : (bothF p ord).1 = 0) : fnd p ord part = placesOf p part := by unfold fnd; rw [if_pos h]
theorem fnd_f {p ord part : List Int} (h : (bothF p ord).1 ≠ 0) : fnd p ord part = [] := by unfold fnd; rw [if_neg h]
theorem sort34_spec (v : Value) (xs : List Int) (hlen : xs.length < 4611686018427387904) : FnH Try.prog 34 #[v] [row v 3 1 xs.length (rows intR xs)] (fun u H' => u = .tuple #[] ∧ H' = [row v 3 1 xs.length (rows intR (xs.mergeSort fun x y => decide (x ≤ y)))]) :=
  sortI_spec Try.laysSlM5_f34 v 3 xs hlen
theorem suf_q1 {p part : List Int} : ∀ a b, a ≤ b → b < (sufOf p).length → (!llt (pre p part.length ((sufOf p).getD a 0)) part) = true → (!llt (pre p part.length ((sufOf p).getD b 0)) part) = true := by
  intro i j hij hj h
  rcases Nat.lt_or_ge i j with h1 | h1
  · have h2 := pre_mono (m := part.length) ((sufOf_is p).2 i j h1 hj)
    cases hc : llt (pre p part.length ((sufOf p).getD j 0)) part with
    | false => rfl
    | true =>
      exfalso
      rcases llt_tri (pre p part.length ((sufOf p).getD i 0)) (pre p part.length ((sufOf p).getD j 0)) with q | q | q
      · rw [llt_trans q hc] at h; cases h
      · rw [q, hc] at h; cases h
      · rw [h2] at q; cases q
  · obtain rfl : i = j := by omega
    exact h
theorem suf_q2 {p part : List Int} : ∀ a b, a ≤ b → b < (sufOf p).length → llt part (pre p part.length ((sufOf p).getD a 0)) = true → llt part (pre p part.length ((sufOf p).getD b 0)) = true := by
  intro i j hij hj h
  rcases Nat.lt_or_ge i j with h1 | h1
  · have h2 := pre_mono (m := part.length) ((sufOf_is p).2 i j h1 hj)
    rcases llt_tri (pre p part.length ((sufOf p).getD i 0)) (pre p part.length ((sufOf p).getD j 0)) with q | q | q
    · exact llt_trans h q
    · rw [← q]; exact h
    · rw [h2] at q; cases q
  · obtain rfl : i = j := by omega
    exact h

theorem Clone_spec (v0 : Value) (l : List Int) (hl : l.length ≤ 1000000) :
    FnH Try.prog 33 #[v0] ([sl intR v0 l].map dat) (fun v H' => v.oneCell' = true ∧ H' = [row v 3 1 l.length (rows intR l)]) := by
  refine FnH.bodyd1 (args := [v0]) 8 Try.func33 rfl Try.ntmps33 rfl (fun c => ?_)
  refine St.seq ?_
  refine St.shape v0 (fun ad cap hv hnil => ?_)
  subst hv
  refine St.rg ?_
  refine St.ev _ (Ev.assign (Opd.mk rfl)) rfl ?_
  refine St.nil ?_
  refine St.then_normal ?_
  refine St.seq ?_
  refine St.seq ?_
  refine St.rg ?_
  refine St.ev _ (Ev.move (Opd.mk rfl)) rfl ?_
  refine St.ev _ (Ev.slnil (Opd.mk rfl) Try.underlying22) rfl ?_
  refine St.nil ?_
  refine St.then_normal ?_
  refine St.cond _ rfl (fun h4 => ?_) (fun h4 => ?_)
  · skip
    try simp only [Bool.and_true, Bool.true_and, decide_eq_true_eq, decide_eq_false_iff_not, Bool.and_eq_true, Bool.or_eq_true, Bool.and_eq_false_iff, Bool.or_eq_false_iff, Bool.not_eq_true', Bool.not_eq_false', beq_iff_eq, beq_eq_false_iff_ne, Int.not_lt, Int.not_le] at h4
    refine St.seq ?_
    refine St.rg ?_
    refine St.ev _ (Ev.assign (Opd.mk rfl)) rfl ?_
    refine St.nil ?_
    refine St.then_normal ?_
    refine St.rett ?_
    refine St.then_ret ?_
    have e0 : l = [] := hnil (by cases ad <;> simp [isNil] at h4; rfl)
    subst e0
    refine St.nilrow 3 1 ?_
    refine St.rets [_] [row (.slice none 0 0) 3 1 0 []] Try.results33 ⟨rfl, trivial⟩ ?_ (fun _ hw => hw.sub)
    exact ⟨rfl, rfl⟩
  · skip
    try simp only [Bool.and_true, Bool.true_and, decide_eq_true_eq, decide_eq_false_iff_not, Bool.and_eq_true, Bool.or_eq_true, Bool.and_eq_false_iff, Bool.or_eq_false_iff, Bool.not_eq_true', Bool.not_eq_false', beq_iff_eq, beq_eq_false_iff_ne, Int.not_lt, Int.not_le] at h4
    refine St.skip ?_
    refine St.then_normal ?_
    refine St.seq ?_
    refine St.rg ?_
    refine St.buildSl (xs := []) (ps := []) rfl (Opds.nil) Try.underlying22 sz3 zv3 rfl rfl (by simp [Value.cells]) rfl rfl (fun b5 => ?_)
    refine St.ev _ (Ev.move (Opd.mk rfl)) rfl ?_
    refine St.appendSl (Opd.mk rfl) (Opd.mk rfl) Try.underlying22 sz3 zv3 by3 (rows_one _ _) (by omega) (by omega) rfl rfl trivial rfl (fun v7 hv7 => ?_)
    refine St.ev _ (Ev.assign (Opd.mk rfl)) rfl ?_
    refine St.nil ?_
    refine St.then_normal ?_
    refine St.rett ?_
    refine St.rowEqN v7 (show _ = l.length by simp) (show _ = rows intR l by rfl) ?_
    refine St.rowOne v7 (fun h1 _ => ?_)
    refine St.rets [_] [row v7 3 intR.size l.length (rows intR l)] Try.results33 ⟨rfl, trivial⟩ ?_ (fun _ hw => hw.sub)
    exact ⟨h1, rfl⟩

theorem Places_spec (v0 v1 : Value) (p part : List Int) (hn : p.length ≤ 2000) (hsz : part.length ≤ 4611686018427387904) :
    FnH Try.prog 18 #[v0, v1] ([sl intR v0 p, sl intR v1 part].map dat) (fun v H' => v.oneCell' = true ∧ H' = [row v 3 1 (placesOf p part).length (rows intR (ints (placesOf p part)))]) := by
  refine FnH.body (args := [v0, v1]) 23 Try.func18 rfl Try.ntmps18 rfl (fun c => ?_)
  refine St.seq ?_
  refine St.cast (H' := [dat (sl intR v0 p), dat (sl intR v1 part)]) rfl ?_
  refine St.rg ?_
  refine St.ev _ (Ev.assign (Opd.mk rfl)) rfl ?_
  refine St.nil ?_
  refine St.then_normal ?_
  refine St.seq ?_
  refine St.rg ?_
  refine St.buildSl (xs := []) (ps := []) rfl (Opds.nil) Try.underlying22 sz3 zv3 rfl rfl (by simp [Value.cells]) rfl rfl (fun b7 => ?_)
  refine St.ev _ (Ev.assign (Opd.mk rfl)) rfl ?_
  refine St.nil ?_
  refine St.then_normal ?_
  refine St.seq ?_
  refine St.seq ?_
  refine St.rg ?_
  refine St.ev _ (Ev.assign (Opd.mk rfl)) rfl ?_
  refine St.nil ?_
  refine St.then_normal ?_
  refine St.block ?_
  refine St.rowEqN (.slice (some ⟨b7, 0, none⟩) 0 0) (show _ = (placesTo p part 0).length from rfl) (show _ = rows intR (ints (placesTo p part 0)) from rfl) ?_
  refine St.loopH2 (ι := Nat) (κ := Value) (fun k v T => (6, iv k) :: (5, v) :: T) (fun k v => [row v 3 1 (placesTo p part k).length (rows intR (ints (placesTo p part k))), dat (sl intR v0 p), dat (sl intR v1 part)]) (fun k v => k ≤ p.length ∧ v.oneCell' = true) (fun k v => p.length - k) 0 (.slice (some ⟨b7, 0, none⟩) 0 0) (Keep.cons 0 rfl (Keep.cons 1 rfl (Keep.cons 4 rfl Keep.nil))) ⟨Nat.zero_le _, rfl⟩ (by repeat (first | exact Sub.nil | refine Sub.cons (by first | rfl | exact congrArg (fun z => some (iv z)) (by first | omega | (dsimp only; omega)) | exact congrArg (fun z => some (Value.bool z)) (by first | assumption | exact Eq.symm (by assumption))) ?_)) (fun _ hw => hw.sub) ?_
  intro k v hphi
  obtain ⟨hk, hv1⟩ := hphi
  have hpl := placesTo_len p part k
  refine St.seq ?_
  refine St.seq ?_
  refine St.rg ?_
  refine St.ev _ (Ev.move (Opd.mk rfl)) rfl ?_
  refine St.ev _ (Ev.move (Opd.mk rfl)) rfl ?_
  refine St.ev _ (Ev.lensl (Opd.mk rfl) Try.underlying22) rfl ?_
  refine St.ev _ (Ev.lss (Opd.mk rfl) (Opd.mk rfl)) rfl ?_
  refine St.nil ?_
  refine St.then_normal ?_
  refine St.cond _ rfl (fun h11 => ?_) (fun h11 => ?_)
  · skip
    try simp only [Bool.and_true, Bool.true_and, decide_eq_true_eq, decide_eq_false_iff_not, Bool.and_eq_true, Bool.or_eq_true, Bool.and_eq_false_iff, Bool.or_eq_false_iff, Bool.not_eq_true', Bool.not_eq_false', beq_iff_eq, beq_eq_false_iff_ne, Int.not_lt, Int.not_le] at h11
    refine St.skip ?_
    refine St.then_normal ?_
    refine St.seq ?_
    refine St.block ?_
    refine St.seq ?_
    refine St.rg ?_
    refine St.ev _ (Ev.move (Opd.mk rfl)) rfl ?_
    refine St.ev _ (Ev.move (Opd.mk rfl)) rfl ?_
    refine St.ev _ (Ev.move (Opd.mk rfl)) rfl ?_
    refine St.ev _ (Ev.call (At_spec v0 v1 p part hsz k (by omega) (by omega)) cb35 (Opds.cons (Opd.mk rfl) (Opds.cons (Opd.mk rfl) (Opds.cons (Opd.mk rfl) Opds.nil)))) rfl ?_
    refine St.nil ?_
    refine St.then_normal ?_
    refine St.cond _ rfl (fun h17 => ?_) (fun h17 => ?_)
    · skip
      try simp only [Bool.and_true, Bool.true_and, decide_eq_true_eq, decide_eq_false_iff_not, Bool.and_eq_true, Bool.or_eq_true, Bool.and_eq_false_iff, Bool.or_eq_false_iff, Bool.not_eq_true', Bool.not_eq_false', beq_iff_eq, beq_eq_false_iff_ne, Int.not_lt, Int.not_le] at h17
      refine St.rg ?_
      refine St.ev _ (Ev.move (Opd.mk rfl)) rfl ?_
      refine St.ev _ (Ev.move (Opd.mk rfl)) rfl ?_
      refine St.buildSl (xs := [(Operand.tmp 19)]) (ps := [(0, (Operand.tmp 19))]) rfl (Opds.cons (Opd.mk rfl) Opds.nil) Try.underlying22 sz3 zv3 rfl rfl (by simp [Value.cells]) rfl rfl (fun b20 => ?_)
      refine St.appendRow (Opd.mk rfl) (Opd.mk rfl) Try.underlying22 sz3 zv3 by3 (by simp [Value.cells, Value.oneCell']) (by omega) (by omega) rfl rfl rfl rfl (fun v21 hv21 => ?_)
      refine St.rowEqN v21 (show _ = (placesTo p part (k + 1)).length by rw [placesTo_t h17]; simp) (show _ = rows intR (ints (placesTo p part (k + 1))) by rw [placesTo_t h17, ints_snoc, rows_snoc]; rfl) ?_
      refine St.rowOne v21 (fun h1 _ => ?_)
      refine St.ev _ (Ev.assign (Opd.mk rfl)) rfl ?_
      refine St.nil ?_
      refine St.in_normal ?_
      refine St.then_normal ?_
      refine St.rg ?_
      refine St.ev _ (Ev.move (Opd.mk rfl)) rfl ?_
      refine St.ev _ (Ev.add (Opd.mk rfl) (Opd.mk rfl) (by omega)) rfl ?_
      refine St.ev _ (Ev.assign (Opd.mk rfl)) rfl ?_
      refine St.nil ?_
      refine St.then_normal ?_
      refine St.againH2 (k + 1) v21 ⟨by omega, h1⟩ (by first | omega | (dsimp only; omega)) (by repeat (first | exact Sub.nil | refine Sub.cons (by first | rfl | exact congrArg (fun z => some (iv z)) (by first | omega | (dsimp only; omega)) | exact congrArg (fun z => some (Value.bool z)) (by first | assumption | exact Eq.symm (by assumption))) ?_)) (fun _ hw => hw.sub)
    · skip
      try simp only [Bool.and_true, Bool.true_and, decide_eq_true_eq, decide_eq_false_iff_not, Bool.and_eq_true, Bool.or_eq_true, Bool.and_eq_false_iff, Bool.or_eq_false_iff, Bool.not_eq_true', Bool.not_eq_false', beq_iff_eq, beq_eq_false_iff_ne, Int.not_lt, Int.not_le] at h17
      refine St.skip ?_
      refine St.in_normal ?_
      refine St.then_normal ?_
      refine St.rg ?_
      refine St.ev _ (Ev.move (Opd.mk rfl)) rfl ?_
      refine St.ev _ (Ev.add (Opd.mk rfl) (Opd.mk rfl) (by omega)) rfl ?_
      refine St.ev _ (Ev.assign (Opd.mk rfl)) rfl ?_
      refine St.nil ?_
      refine St.then_normal ?_
      have hq := placesTo_f h17
      refine St.rowEqN v (show _ = (placesTo p part (k + 1)).length by rw [hq]) (show _ = rows intR (ints (placesTo p part (k + 1))) by rw [hq]) ?_
      refine St.againH2 (k + 1) v ⟨by omega, hv1⟩ (by first | omega | (dsimp only; omega)) (by repeat (first | exact Sub.nil | refine Sub.cons (by first | rfl | exact congrArg (fun z => some (iv z)) (by first | omega | (dsimp only; omega)) | exact congrArg (fun z => some (Value.bool z)) (by first | assumption | exact Eq.symm (by assumption))) ?_)) (fun _ hw => hw.sub)
  · skip
    try simp only [Bool.and_true, Bool.true_and, decide_eq_true_eq, decide_eq_false_iff_not, Bool.and_eq_true, Bool.or_eq_true, Bool.and_eq_false_iff, Bool.or_eq_false_iff, Bool.not_eq_true', Bool.not_eq_false', beq_iff_eq, beq_eq_false_iff_ne, Int.not_lt, Int.not_le] at h11
    refine St.exit ?_
    refine St.then_exit ?_
    refine St.then_exit ?_
    refine St.in_hit ?_
    refine St.then_normal ?_
    refine St.seq ?_
    refine St.rg ?_
    refine St.ev _ (Ev.move (Opd.mk rfl)) rfl ?_
    refine St.ev _ (Ev.assign (Opd.mk rfl)) rfl ?_
    refine St.nil ?_
    refine St.then_normal ?_
    refine St.rett ?_
    obtain rfl : k = p.length := by omega
    rw [placesTo_end]
    refine St.rets [_] [row v 3 1 (placesOf p part).length (rows intR (ints (placesOf p part)))] Try.results18 ⟨rfl, trivial⟩ ?_ (fun _ hw => hw.sub)
    exact ⟨hv1, rfl⟩

theorem swap_rows {L : List Nat} {j a b : Nat} : ((rows intR (ints L)).set (j * 1 + 0) (iv (a : Nat))).set ((j - 1) * 1 + 0) (iv (b : Nat)) = rows intR (ints ((L.set j a).set (j - 1) b)) := by rw [rowI2_set, rowI2_set]

theorem Order_spec (v0 : Value) (p : List Int) (hn : p.length ≤ 2000) :
    FnH Try.prog 16 #[v0] ([sl intR v0 p].map dat) (fun v H' => v.oneCell' = true ∧ H' = [row v 3 1 (sufOf p).length (rows intR (ints (sufOf p)))]) := by
  refine FnH.body (args := [v0]) 54 Try.func16 rfl Try.ntmps16 rfl (fun c => ?_)
  refine St.seq ?_
  refine St.cast (H' := [dat (sl intR v0 p)]) rfl ?_
  refine St.rg ?_
  refine St.ev _ (Ev.assign (Opd.mk rfl)) rfl ?_
  refine St.nil ?_
  refine St.then_normal ?_
  refine St.seq ?_
  refine St.rg ?_
  refine St.buildSl (xs := []) (ps := []) rfl (Opds.nil) Try.underlying22 sz3 zv3 rfl rfl (by simp [Value.cells]) rfl rfl (fun b6 => ?_)
  refine St.ev _ (Ev.assign (Opd.mk rfl)) rfl ?_
  refine St.nil ?_
  refine St.then_normal ?_
  refine St.seq ?_
  refine St.seq ?_
  refine St.rg ?_
  refine St.ev _ (Ev.assign (Opd.mk rfl)) rfl ?_
  refine St.nil ?_
  refine St.then_normal ?_
  refine St.block ?_
  refine St.rowEqN (.slice (some ⟨b6, 0, none⟩) 0 0) (show _ = 0 from rfl) (show _ = rows intR (ints []) from rfl) ?_
  refine St.loopH2 (ι := Nat × List Nat) (κ := Value) (fun y v T => (4, iv y.1) :: (3, v) :: T) (fun y v => [row v 3 1 y.1 (rows intR (ints y.2)), dat (sl intR v0 p)]) (fun y v => y.1 ≤ p.length ∧ v.oneCell' = true ∧ y.2.Perm (List.range y.1) ∧ Sx p y.2) (fun y v => p.length - y.1) (0, []) (.slice (some ⟨b6, 0, none⟩) 0 0) (Keep.cons 0 rfl (Keep.cons 2 rfl Keep.nil)) ⟨Nat.zero_le _, rfl, List.Perm.refl _, List.Pairwise.nil⟩ (by repeat (first | exact Sub.nil | refine Sub.cons (by first | rfl | exact congrArg (fun z => some (iv z)) (by first | omega | (dsimp only; omega)) | exact congrArg (fun z => some (Value.bool z)) (by first | assumption | exact Eq.symm (by assumption))) ?_)) (fun _ hw => hw.sub) ?_
  rintro ⟨k, l⟩ v ⟨hk, hv1, hpm, hsx⟩
  have hll : l.length = k := by rw [hpm.length_eq, List.length_range]
  dsimp only at hk hpm hsx ⊢
  refine St.seq ?_
  refine St.seq ?_
  refine St.rg ?_
  refine St.ev _ (Ev.move (Opd.mk rfl)) rfl ?_
  refine St.ev _ (Ev.move (Opd.mk rfl)) rfl ?_
  refine St.ev _ (Ev.lensl (Opd.mk rfl) Try.underlying22) rfl ?_
  refine St.ev _ (Ev.lss (Opd.mk rfl) (Opd.mk rfl)) rfl ?_
  refine St.nil ?_
  refine St.then_normal ?_
  refine St.cond _ rfl (fun h10 => ?_) (fun h10 => ?_)
  · skip
    try simp only [Bool.and_true, Bool.true_and, decide_eq_true_eq, decide_eq_false_iff_not, Bool.and_eq_true, Bool.or_eq_true, Bool.and_eq_false_iff, Bool.or_eq_false_iff, Bool.not_eq_true', Bool.not_eq_false', beq_iff_eq, beq_eq_false_iff_ne, Int.not_lt, Int.not_le] at h10
    refine St.skip ?_
    refine St.then_normal ?_
    refine St.seq ?_
    refine St.block ?_
    refine St.seq ?_
    refine St.rg ?_
    refine St.ev _ (Ev.move (Opd.mk rfl)) rfl ?_
    refine St.ev _ (Ev.move (Opd.mk rfl)) rfl ?_
    refine St.buildSl (xs := [(Operand.tmp 14)]) (ps := [(0, (Operand.tmp 14))]) rfl (Opds.cons (Opd.mk rfl) Opds.nil) Try.underlying22 sz3 zv3 rfl rfl (by simp [Value.cells]) rfl rfl (fun b15 => ?_)
    refine St.appendRow (Opd.mk rfl) (Opd.mk rfl) Try.underlying22 sz3 zv3 by3 (by simp [Value.cells, Value.oneCell']) (by omega) (by omega) rfl rfl rfl rfl (fun v16 hv16 => ?_)
    refine St.rowEqN v16 (show _ = k + 1 by omega) (show _ = rows intR (ints (l ++ k :: [])) by rw [ints_snoc, rows_snoc]; rfl) ?_
    refine St.rowOne v16 (fun h1 _ => ?_)
    refine St.ev _ (Ev.assign (Opd.mk rfl)) rfl ?_
    refine St.nil ?_
    refine St.then_normal ?_
    refine St.seq ?_
    refine St.rg ?_
    refine St.ev _ (Ev.move (Opd.mk rfl)) rfl ?_
    refine St.ev _ (Ev.lenrow (Opd.mk rfl) Try.underlying22) rfl ?_
    refine St.ev _ (Ev.sub (Opd.mk rfl) (Opd.mk rfl) (by omega)) rfl ?_
    refine St.ev _ (Ev.assign (Opd.mk rfl)) rfl ?_
    refine St.nil ?_
    refine St.then_normal ?_
    refine St.block ?_
    refine St.loopH (ι := List Nat × List Nat) (fun x T => (5, iv (x.1.length : Nat)) :: T) (fun x => [row v16 3 1 (k + 1) (rows intR (ints (x.1 ++ k :: x.2))), dat (sl intR v0 p)]) (fun x => InsI p k x.1 x.2 ∧ x.1.length + x.2.length = k) (fun x => x.1.length) (l, []) (Keep.cons 0 rfl (Keep.cons 2 rfl (Keep.cons 3 rfl (Keep.cons 4 rfl Keep.nil)))) ⟨InsI.init hpm hsx, by simpa using hll⟩ (by repeat (first | exact Sub.nil | refine Sub.cons (by first | rfl | exact congrArg (fun z => some (iv z)) (by first | omega | (dsimp only; omega)) | exact congrArg (fun z => some (Value.bool z)) (by first | assumption | exact Eq.symm (by assumption))) ?_)) (fun _ hw => hw.sub) ?_
    intro x hphi
    obtain ⟨hin, hlen⟩ := hphi
    refine St.seq ?_
    refine St.seq ?_
    have hmem : ∀ i ∈ x.1 ++ k :: x.2, i < p.length := by
      intro i hi
      rcases List.mem_append.1 hi with q | q
      · have := List.mem_range.1 (hin.perm.mem_iff.1 (List.mem_append_left _ q)); omega
      · rcases List.mem_cons.1 q with q | q
        · omega
        · have := List.mem_range.1 (hin.perm.mem_iff.1 (List.mem_append_right _ q)); omega
    have hgd : ∀ j, (x.1 ++ k :: x.2).getD j 0 ≤ p.length := by
      intro j
      rw [List.getD_eq_getElem?_getD]
      rcases Nat.lt_or_ge j (x.1 ++ k :: x.2).length with q | q
      · rw [List.getElem?_eq_getElem q]; exact Nat.le_of_lt (hmem _ (List.getElem_mem _))
      · rw [List.getElem?_eq_none q]; exact Nat.zero_le _
    have hLl : (x.1 ++ k :: x.2).length = k + 1 := by simp; omega
    refine St.rq mixed (by kernel_rfl) (Mm.drawn _ _) ?_
    refine Sq.ev _ (Ev.move (Opd.mk rfl)) rfl ?_
    refine Sq.ev _ (Ev.gtr (Opd.mk rfl) (Opd.mk rfl)) rfl ?_
    refine Sq.ev _ (Ev.move (Opd.mk rfl)) rfl ?_
    refine Sq.gt _ rfl rfl (fun hg => Ev.move (Opd.mk rfl)) rfl ?_
    refine Sq.gt _ rfl rfl (fun hg => Ev.move (Opd.mk rfl)) rfl ?_
    refine Sq.gt _ rfl rfl (fun hg => Ev.move (Opd.mk rfl)) rfl ?_
    refine Sq.gt _ rfl rfl (fun hg => Ev.idxaddrrow (k := x.1.length) (Opd.gv rfl hg) (Opd.gv rfl hg) Try.underlying22 sz3 (by first | omega | (simp only [Bool.and_true, Bool.true_and, decide_eq_true_eq, decide_eq_false_iff_not, Bool.and_eq_true, Bool.or_eq_true, Bool.and_eq_false_iff, Bool.or_eq_false_iff, Bool.not_eq_true', Bool.not_eq_false', beq_iff_eq, beq_eq_false_iff_ne, Int.not_lt, Int.not_le] at hg; omega)) (by first | omega | (simp only [Bool.and_true, Bool.true_and, decide_eq_true_eq, decide_eq_false_iff_not, Bool.and_eq_true, Bool.or_eq_true, Bool.and_eq_false_iff, Bool.or_eq_false_iff, Bool.not_eq_true', Bool.not_eq_false', beq_iff_eq, beq_eq_false_iff_ne, Int.not_lt, Int.not_le] at hg; omega))) rfl ?_
    refine Sq.gt _ rfl rfl (fun hg => Ev.ldrow (Opd.gv rfl hg) Try.underlying3 trivial (by first | omega | (simp only [Bool.and_true, Bool.true_and, decide_eq_true_eq, decide_eq_false_iff_not, Bool.and_eq_true, Bool.or_eq_true, Bool.and_eq_false_iff, Bool.or_eq_false_iff, Bool.not_eq_true', Bool.not_eq_false', beq_iff_eq, beq_eq_false_iff_ne, Int.not_lt, Int.not_le] at hg; omega)) (rowI2 (by first | omega | (simp only [Bool.and_true, Bool.true_and, decide_eq_true_eq, decide_eq_false_iff_not, Bool.and_eq_true, Bool.or_eq_true, Bool.and_eq_false_iff, Bool.or_eq_false_iff, Bool.not_eq_true', Bool.not_eq_false', beq_iff_eq, beq_eq_false_iff_ne, Int.not_lt, Int.not_le] at hg; omega)))) rfl ?_
    refine Sq.gt _ rfl rfl (fun hg => Ev.move (Opd.mk rfl)) rfl ?_
    refine Sq.gt _ rfl rfl (fun hg => Ev.move (Opd.mk rfl)) rfl ?_
    refine Sq.gt _ rfl rfl (fun hg => Ev.sub (Opd.gv rfl hg) (Opd.mk rfl) (by first | omega | (simp only [Bool.and_true, Bool.true_and, decide_eq_true_eq, decide_eq_false_iff_not, Bool.and_eq_true, Bool.or_eq_true, Bool.and_eq_false_iff, Bool.or_eq_false_iff, Bool.not_eq_true', Bool.not_eq_false', beq_iff_eq, beq_eq_false_iff_ne, Int.not_lt, Int.not_le] at hg; omega))) rfl ?_
    refine Sq.gt _ rfl rfl (fun hg => Ev.idxaddrrow (k := (x.1.length - 1)) (Opd.gv rfl hg) (Opd.gv rfl hg) Try.underlying22 sz3 (by first | omega | (simp only [Bool.and_true, Bool.true_and, decide_eq_true_eq, decide_eq_false_iff_not, Bool.and_eq_true, Bool.or_eq_true, Bool.and_eq_false_iff, Bool.or_eq_false_iff, Bool.not_eq_true', Bool.not_eq_false', beq_iff_eq, beq_eq_false_iff_ne, Int.not_lt, Int.not_le] at hg; omega)) (by first | omega | (simp only [Bool.and_true, Bool.true_and, decide_eq_true_eq, decide_eq_false_iff_not, Bool.and_eq_true, Bool.or_eq_true, Bool.and_eq_false_iff, Bool.or_eq_false_iff, Bool.not_eq_true', Bool.not_eq_false', beq_iff_eq, beq_eq_false_iff_ne, Int.not_lt, Int.not_le] at hg; omega))) rfl ?_
    refine Sq.gt _ rfl rfl (fun hg => Ev.ldrow (Opd.gv rfl hg) Try.underlying3 trivial (by first | omega | (simp only [Bool.and_true, Bool.true_and, decide_eq_true_eq, decide_eq_false_iff_not, Bool.and_eq_true, Bool.or_eq_true, Bool.and_eq_false_iff, Bool.or_eq_false_iff, Bool.not_eq_true', Bool.not_eq_false', beq_iff_eq, beq_eq_false_iff_ne, Int.not_lt, Int.not_le] at hg; omega)) (rowI2 (by first | omega | (simp only [Bool.and_true, Bool.true_and, decide_eq_true_eq, decide_eq_false_iff_not, Bool.and_eq_true, Bool.or_eq_true, Bool.and_eq_false_iff, Bool.or_eq_false_iff, Bool.not_eq_true', Bool.not_eq_false', beq_iff_eq, beq_eq_false_iff_ne, Int.not_lt, Int.not_le] at hg; omega)))) rfl ?_
    refine Sq.gt _ rfl rfl (fun hg => Ev.call (Less_spec v0 p (by omega) ((x.1 ++ k :: x.2).getD x.1.length 0) ((x.1 ++ k :: x.2).getD (x.1.length - 1) 0) (hgd _) (hgd _)) cb14 (Opds.cons (Opd.gv rfl hg) (Opds.cons (Opd.gv rfl hg) (Opds.cons (Opd.gv rfl hg) Opds.nil)))) rfl ?_
    refine Sq.ev _ (Ev.and (Opd.mk rfl) (fun hp => Opd.gv rfl hp)) rfl ?_
    refine Sq.nil ?_
    refine St.then_normal ?_
    refine St.cond _ rfl (fun h34 => ?_) (fun h34 => ?_)
    · skip
      try simp only [Bool.and_true, Bool.true_and, decide_eq_true_eq, decide_eq_false_iff_not, Bool.and_eq_true, Bool.or_eq_true, Bool.and_eq_false_iff, Bool.or_eq_false_iff, Bool.not_eq_true', Bool.not_eq_false', beq_iff_eq, beq_eq_false_iff_ne, Int.not_lt, Int.not_le] at h34
      obtain ⟨h34a, h34b⟩ := h34
      obtain ⟨A, a, hA⟩ := last_of (A := x.1) (by omega)
      have hAl : x.1.length = A.length + 1 := by rw [hA]; simp
      have esw := swap_mid (A := A) (B := x.2) (a := a) (k := k) (j := x.1.length) hAl
      rw [← hA] at esw
      have hin2 : InsI p k A (a :: x.2) := by
        refine InsI.step (hA ▸ hin) ?_
        rw [getD_mid rfl] at h34b
        rw [hA, List.append_assoc, List.singleton_append, getD_mid (by simp)] at h34b
        exact h34b
      refine St.rowShape v16 (by omega) (fun bs cs hsh => ?_)
      refine St.skip ?_
      refine St.then_normal ?_
      refine St.block ?_
      refine St.join (ι := Unit) (fun u T => T) (fun u => [row v16 3 1 (k + 1) (rows intR (ints (A ++ k :: a :: x.2))), dat (sl intR v0 p)]) (fun u => True) (Keep.cons 0 rfl (Keep.cons 2 rfl (Keep.cons 3 rfl (Keep.cons 4 rfl (Keep.cons 5 rfl Keep.nil))))) ?_ ?_
      · skip
        refine St.any mixed (Mm.drawn _ _) ?_
        refine St.defer 0 (by repeat (first | refine NP.then ?_ | refine NP.inBlock ?_ | exact NP.body)) (by kernel_rfl) rfl (Es.move (Opd.mk rfl)) (by kernel_rfl) rfl ?_
        refine St.defer 1 (by repeat (first | refine NP.then ?_ | refine NP.inBlock ?_ | exact NP.body)) (by kernel_rfl) rfl (Es.move (Opd.mk rfl)) (by kernel_rfl) rfl ?_
        refine St.defer 2 (by repeat (first | refine NP.then ?_ | refine NP.inBlock ?_ | exact NP.body)) (by kernel_rfl) rfl (Es.move (Opd.mk rfl)) (by kernel_rfl) rfl ?_
        refine St.defer 3 (by repeat (first | refine NP.then ?_ | refine NP.inBlock ?_ | exact NP.body)) (by kernel_rfl) rfl (Es.move (Opd.mk rfl)) (by kernel_rfl) rfl ?_
        refine St.defer 5 (by repeat (first | refine NP.then ?_ | refine NP.inBlock ?_ | exact NP.body)) (by kernel_rfl) rfl (Es.move (Opd.mk rfl)) (by kernel_rfl) rfl ?_
        refine St.defer 6 (by repeat (first | refine NP.then ?_ | refine NP.inBlock ?_ | exact NP.body)) (by kernel_rfl) rfl (Es.move (Opd.mk rfl)) (by kernel_rfl) rfl ?_
        refine St.defer 10 (by repeat (first | refine NP.then ?_ | refine NP.inBlock ?_ | exact NP.body)) (by kernel_rfl) rfl (Es.move (Opd.mk rfl)) (by kernel_rfl) rfl ?_
        refine St.defer 11 (by repeat (first | refine NP.then ?_ | refine NP.inBlock ?_ | exact NP.body)) (by kernel_rfl) rfl (Es.move (Opd.mk rfl)) (by kernel_rfl) rfl ?_
        refine St.defer 12 (by repeat (first | refine NP.then ?_ | refine NP.inBlock ?_ | exact NP.body)) (by kernel_rfl) rfl (Es.idx (k := x.1.length) hsh (Opd.mk rfl) (Opd.mk rfl) Try.underlying22 sz3 (by omega) (by omega)) (by kernel_rfl) rfl ?_
        refine St.any3 (i := 4) (j := 7) (k := 13) (by kernel_rfl) rfl rfl rfl ?_ ?_ ?_
        · skip
          refine St.ev _ (Ev.sub (Opd.mk rfl) (Opd.mk rfl) (by omega)) rfl ?_
          refine St.nil ?_
          refine St.then_normal ?_
          refine St.any2 (i := 7) (j := 13) (by kernel_rfl) rfl rfl ?_ ?_
          · skip
            refine St.ev _ (Ev.sub (Opd.mk rfl) (Opd.mk rfl) (by omega)) rfl ?_
            refine St.nil ?_
            refine St.then_normal ?_
            refine St.defer 8 (by repeat (first | refine NP.then ?_ | refine NP.inBlock ?_ | exact NP.body)) (by kernel_rfl) rfl (Es.idx (k := (x.1.length - 1)) hsh (Opd.mk rfl) (Opd.mk rfl) Try.underlying22 sz3 (by omega) (by omega)) (by kernel_rfl) rfl ?_
            refine St.any2 (i := 9) (j := 13) (by kernel_rfl) rfl rfl ?_ ?_
            · skip
              refine St.ev _ (Ev.ldrow (Opd.mk rfl) Try.underlying3 trivial (by omega) (rowI2 (by omega))) rfl ?_
              refine St.nil ?_
              refine St.then_normal ?_
              refine St.any1 (i := 13) (by kernel_rfl) rfl ?_
              refine St.ev _ (Ev.ldrow (Opd.mk rfl) Try.underlying3 trivial (by omega) (rowI2 (by omega))) rfl ?_
              refine St.nil ?_
              refine St.then_normal ?_
              refine St.defer 14 (by repeat (first | refine NP.then ?_ | refine NP.inBlock ?_ | exact NP.body)) (by kernel_rfl) rfl (Es.idx (k := x.1.length) hsh (Opd.mk rfl) (Opd.mk rfl) Try.underlying22 sz3 (by omega) (by omega)) (by kernel_rfl) rfl ?_
              refine St.any1 (i := 15) (by kernel_rfl) rfl ?_
              refine St.storerow (Opd.mk rfl) (Opd.mk rfl) sz3 rfl (by omega) (by decide) ?_
              refine St.nil ?_
              refine St.then_normal ?_
              refine St.defer 16 (by repeat (first | refine NP.then ?_ | refine NP.inBlock ?_ | exact NP.body)) (by kernel_rfl) rfl (Es.idx (k := (x.1.length - 1)) hsh (Opd.mk rfl) (Opd.mk rfl) Try.underlying22 sz3 (by omega) (by omega)) (by kernel_rfl) rfl ?_
              refine St.any1 (i := 17) (by kernel_rfl) rfl ?_
              refine St.storerow (Opd.mk rfl) (Opd.mk rfl) sz3 rfl (by omega) (by decide) ?_
              refine St.nil ?_
              refine St.then_normal ?_
              refine St.any_done (by kernel_rfl) ?_
              refine St.then_normal ?_
              refine St.rowEq v16 (show _ = rows intR (ints (A ++ k :: a :: x.2)) by rw [← esw]; first | exact swap_rows | (rw [rowI2_set, rowI2_set])) ?_
              refine St.met () trivial (by repeat (first | exact Sub.nil | refine Sub.cons (by first | rfl | exact congrArg (fun z => some (iv z)) (by first | omega | (dsimp only; omega)) | exact congrArg (fun z => some (Value.bool z)) (by first | assumption | exact Eq.symm (by assumption))) ?_)) (fun _ hw => hw.sub)
            · skip
              refine St.ev _ (Ev.ldrow (Opd.mk rfl) Try.underlying3 trivial (by omega) (rowI2 (by omega))) rfl ?_
              refine St.nil ?_
              refine St.then_normal ?_
              refine St.any1 (i := 9) (by kernel_rfl) rfl ?_
              refine St.ev _ (Ev.ldrow (Opd.mk rfl) Try.underlying3 trivial (by omega) (rowI2 (by omega))) rfl ?_
              refine St.nil ?_
              refine St.then_normal ?_
              refine St.defer 14 (by repeat (first | refine NP.then ?_ | refine NP.inBlock ?_ | exact NP.body)) (by kernel_rfl) rfl (Es.idx (k := x.1.length) hsh (Opd.mk rfl) (Opd.mk rfl) Try.underlying22 sz3 (by omega) (by omega)) (by kernel_rfl) rfl ?_
              refine St.any1 (i := 15) (by kernel_rfl) rfl ?_
              refine St.storerow (Opd.mk rfl) (Opd.mk rfl) sz3 rfl (by omega) (by decide) ?_
              refine St.nil ?_
              refine St.then_normal ?_
              refine St.defer 16 (by repeat (first | refine NP.then ?_ | refine NP.inBlock ?_ | exact NP.body)) (by kernel_rfl) rfl (Es.idx (k := (x.1.length - 1)) hsh (Opd.mk rfl) (Opd.mk rfl) Try.underlying22 sz3 (by omega) (by omega)) (by kernel_rfl) rfl ?_
              refine St.any1 (i := 17) (by kernel_rfl) rfl ?_
              refine St.storerow (Opd.mk rfl) (Opd.mk rfl) sz3 rfl (by omega) (by decide) ?_
              refine St.nil ?_
              refine St.then_normal ?_
              refine St.any_done (by kernel_rfl) ?_
              refine St.then_normal ?_
              refine St.rowEq v16 (show _ = rows intR (ints (A ++ k :: a :: x.2)) by rw [← esw]; first | exact swap_rows | (rw [rowI2_set, rowI2_set])) ?_
              refine St.met () trivial (by repeat (first | exact Sub.nil | refine Sub.cons (by first | rfl | exact congrArg (fun z => some (iv z)) (by first | omega | (dsimp only; omega)) | exact congrArg (fun z => some (Value.bool z)) (by first | assumption | exact Eq.symm (by assumption))) ?_)) (fun _ hw => hw.sub)
          · skip
            refine St.ev _ (Ev.ldrow (Opd.mk rfl) Try.underlying3 trivial (by omega) (rowI2 (by omega))) rfl ?_
            refine St.nil ?_
            refine St.then_normal ?_
            refine St.any1 (i := 7) (by kernel_rfl) rfl ?_
            refine St.ev _ (Ev.sub (Opd.mk rfl) (Opd.mk rfl) (by omega)) rfl ?_
            refine St.nil ?_
            refine St.then_normal ?_
            refine St.defer 8 (by repeat (first | refine NP.then ?_ | refine NP.inBlock ?_ | exact NP.body)) (by kernel_rfl) rfl (Es.idx (k := (x.1.length - 1)) hsh (Opd.mk rfl) (Opd.mk rfl) Try.underlying22 sz3 (by omega) (by omega)) (by kernel_rfl) rfl ?_
            refine St.any1 (i := 9) (by kernel_rfl) rfl ?_
            refine St.ev _ (Ev.ldrow (Opd.mk rfl) Try.underlying3 trivial (by omega) (rowI2 (by omega))) rfl ?_
            refine St.nil ?_
            refine St.then_normal ?_
            refine St.defer 14 (by repeat (first | refine NP.then ?_ | refine NP.inBlock ?_ | exact NP.body)) (by kernel_rfl) rfl (Es.idx (k := x.1.length) hsh (Opd.mk rfl) (Opd.mk rfl) Try.underlying22 sz3 (by omega) (by omega)) (by kernel_rfl) rfl ?_
            refine St.any1 (i := 15) (by kernel_rfl) rfl ?_
            refine St.storerow (Opd.mk rfl) (Opd.mk rfl) sz3 rfl (by omega) (by decide) ?_
            refine St.nil ?_
            refine St.then_normal ?_
            refine St.defer 16 (by repeat (first | refine NP.then ?_ | refine NP.inBlock ?_ | exact NP.body)) (by kernel_rfl) rfl (Es.idx (k := (x.1.length - 1)) hsh (Opd.mk rfl) (Opd.mk rfl) Try.underlying22 sz3 (by omega) (by omega)) (by kernel_rfl) rfl ?_
            refine St.any1 (i := 17) (by kernel_rfl) rfl ?_
            refine St.storerow (Opd.mk rfl) (Opd.mk rfl) sz3 rfl (by omega) (by decide) ?_
            refine St.nil ?_
            refine St.then_normal ?_
            refine St.any_done (by kernel_rfl) ?_
            refine St.then_normal ?_
            refine St.rowEq v16 (show _ = rows intR (ints (A ++ k :: a :: x.2)) by rw [← esw]; first | exact swap_rows | (rw [rowI2_set, rowI2_set])) ?_
            refine St.met () trivial (by repeat (first | exact Sub.nil | refine Sub.cons (by first | rfl | exact congrArg (fun z => some (iv z)) (by first | omega | (dsimp only; omega)) | exact congrArg (fun z => some (Value.bool z)) (by first | assumption | exact Eq.symm (by assumption))) ?_)) (fun _ hw => hw.sub)
        · skip
          refine St.ev _ (Ev.sub (Opd.mk rfl) (Opd.mk rfl) (by omega)) rfl ?_
          refine St.nil ?_
          refine St.then_normal ?_
          refine St.defer 8 (by repeat (first | refine NP.then ?_ | refine NP.inBlock ?_ | exact NP.body)) (by kernel_rfl) rfl (Es.idx (k := (x.1.length - 1)) hsh (Opd.mk rfl) (Opd.mk rfl) Try.underlying22 sz3 (by omega) (by omega)) (by kernel_rfl) rfl ?_
          refine St.any3 (i := 4) (j := 9) (k := 13) (by kernel_rfl) rfl rfl rfl ?_ ?_ ?_
          · skip
            refine St.ev _ (Ev.sub (Opd.mk rfl) (Opd.mk rfl) (by omega)) rfl ?_
            refine St.nil ?_
            refine St.then_normal ?_
            refine St.any2 (i := 9) (j := 13) (by kernel_rfl) rfl rfl ?_ ?_
            · skip
              refine St.ev _ (Ev.ldrow (Opd.mk rfl) Try.underlying3 trivial (by omega) (rowI2 (by omega))) rfl ?_
              refine St.nil ?_
              refine St.then_normal ?_
              refine St.any1 (i := 13) (by kernel_rfl) rfl ?_
              refine St.ev _ (Ev.ldrow (Opd.mk rfl) Try.underlying3 trivial (by omega) (rowI2 (by omega))) rfl ?_
              refine St.nil ?_
              refine St.then_normal ?_
              refine St.defer 14 (by repeat (first | refine NP.then ?_ | refine NP.inBlock ?_ | exact NP.body)) (by kernel_rfl) rfl (Es.idx (k := x.1.length) hsh (Opd.mk rfl) (Opd.mk rfl) Try.underlying22 sz3 (by omega) (by omega)) (by kernel_rfl) rfl ?_
              refine St.any1 (i := 15) (by kernel_rfl) rfl ?_
              refine St.storerow (Opd.mk rfl) (Opd.mk rfl) sz3 rfl (by omega) (by decide) ?_
              refine St.nil ?_
              refine St.then_normal ?_
              refine St.defer 16 (by repeat (first | refine NP.then ?_ | refine NP.inBlock ?_ | exact NP.body)) (by kernel_rfl) rfl (Es.idx (k := (x.1.length - 1)) hsh (Opd.mk rfl) (Opd.mk rfl) Try.underlying22 sz3 (by omega) (by omega)) (by kernel_rfl) rfl ?_
              refine St.any1 (i := 17) (by kernel_rfl) rfl ?_
              refine St.storerow (Opd.mk rfl) (Opd.mk rfl) sz3 rfl (by omega) (by decide) ?_
              refine St.nil ?_
              refine St.then_normal ?_
              refine St.any_done (by kernel_rfl) ?_
              refine St.then_normal ?_
              refine St.rowEq v16 (show _ = rows intR (ints (A ++ k :: a :: x.2)) by rw [← esw]; first | exact swap_rows | (rw [rowI2_set, rowI2_set])) ?_
              refine St.met () trivial (by repeat (first | exact Sub.nil | refine Sub.cons (by first | rfl | exact congrArg (fun z => some (iv z)) (by first | omega | (dsimp only; omega)) | exact congrArg (fun z => some (Value.bool z)) (by first | assumption | exact Eq.symm (by assumption))) ?_)) (fun _ hw => hw.sub)
            · skip
              refine St.ev _ (Ev.ldrow (Opd.mk rfl) Try.underlying3 trivial (by omega) (rowI2 (by omega))) rfl ?_
              refine St.nil ?_
              refine St.then_normal ?_
              refine St.any1 (i := 9) (by kernel_rfl) rfl ?_
              refine St.ev _ (Ev.ldrow (Opd.mk rfl) Try.underlying3 trivial (by omega) (rowI2 (by omega))) rfl ?_
              refine St.nil ?_
              refine St.then_normal ?_
              refine St.defer 14 (by repeat (first | refine NP.then ?_ | refine NP.inBlock ?_ | exact NP.body)) (by kernel_rfl) rfl (Es.idx (k := x.1.length) hsh (Opd.mk rfl) (Opd.mk rfl) Try.underlying22 sz3 (by omega) (by omega)) (by kernel_rfl) rfl ?_
              refine St.any1 (i := 15) (by kernel_rfl) rfl ?_
              refine St.storerow (Opd.mk rfl) (Opd.mk rfl) sz3 rfl (by omega) (by decide) ?_
              refine St.nil ?_
              refine St.then_normal ?_
              refine St.defer 16 (by repeat (first | refine NP.then ?_ | refine NP.inBlock ?_ | exact NP.body)) (by kernel_rfl) rfl (Es.idx (k := (x.1.length - 1)) hsh (Opd.mk rfl) (Opd.mk rfl) Try.underlying22 sz3 (by omega) (by omega)) (by kernel_rfl) rfl ?_
              refine St.any1 (i := 17) (by kernel_rfl) rfl ?_
              refine St.storerow (Opd.mk rfl) (Opd.mk rfl) sz3 rfl (by omega) (by decide) ?_
              refine St.nil ?_
              refine St.then_normal ?_
              refine St.any_done (by kernel_rfl) ?_
              refine St.then_normal ?_
              refine St.rowEq v16 (show _ = rows intR (ints (A ++ k :: a :: x.2)) by rw [← esw]; first | exact swap_rows | (rw [rowI2_set, rowI2_set])) ?_
              refine St.met () trivial (by repeat (first | exact Sub.nil | refine Sub.cons (by first | rfl | exact congrArg (fun z => some (iv z)) (by first | omega | (dsimp only; omega)) | exact congrArg (fun z => some (Value.bool z)) (by first | assumption | exact Eq.symm (by assumption))) ?_)) (fun _ hw => hw.sub)
          · skip
            refine St.ev _ (Ev.ldrow (Opd.mk rfl) Try.underlying3 trivial (by omega) (rowI2 (by omega))) rfl ?_
            refine St.nil ?_
            refine St.then_normal ?_
            refine St.any2 (i := 4) (j := 13) (by kernel_rfl) rfl rfl ?_ ?_
            · skip
              refine St.ev _ (Ev.sub (Opd.mk rfl) (Opd.mk rfl) (by omega)) rfl ?_
              refine St.nil ?_
              refine St.then_normal ?_
              refine St.any1 (i := 13) (by kernel_rfl) rfl ?_
              refine St.ev _ (Ev.ldrow (Opd.mk rfl) Try.underlying3 trivial (by omega) (rowI2 (by omega))) rfl ?_
              refine St.nil ?_
              refine St.then_normal ?_
              refine St.defer 14 (by repeat (first | refine NP.then ?_ | refine NP.inBlock ?_ | exact NP.body)) (by kernel_rfl) rfl (Es.idx (k := x.1.length) hsh (Opd.mk rfl) (Opd.mk rfl) Try.underlying22 sz3 (by omega) (by omega)) (by kernel_rfl) rfl ?_
              refine St.any1 (i := 15) (by kernel_rfl) rfl ?_
              refine St.storerow (Opd.mk rfl) (Opd.mk rfl) sz3 rfl (by omega) (by decide) ?_
              refine St.nil ?_
              refine St.then_normal ?_
              refine St.defer 16 (by repeat (first | refine NP.then ?_ | refine NP.inBlock ?_ | exact NP.body)) (by kernel_rfl) rfl (Es.idx (k := (x.1.length - 1)) hsh (Opd.mk rfl) (Opd.mk rfl) Try.underlying22 sz3 (by omega) (by omega)) (by kernel_rfl) rfl ?_
              refine St.any1 (i := 17) (by kernel_rfl) rfl ?_
              refine St.storerow (Opd.mk rfl) (Opd.mk rfl) sz3 rfl (by omega) (by decide) ?_
              refine St.nil ?_
              refine St.then_normal ?_
              refine St.any_done (by kernel_rfl) ?_
              refine St.then_normal ?_
              refine St.rowEq v16 (show _ = rows intR (ints (A ++ k :: a :: x.2)) by rw [← esw]; first | exact swap_rows | (rw [rowI2_set, rowI2_set])) ?_
              refine St.met () trivial (by repeat (first | exact Sub.nil | refine Sub.cons (by first | rfl | exact congrArg (fun z => some (iv z)) (by first | omega | (dsimp only; omega)) | exact congrArg (fun z => some (Value.bool z)) (by first | assumption | exact Eq.symm (by assumption))) ?_)) (fun _ hw => hw.sub)
            · skip
              refine St.ev _ (Ev.ldrow (Opd.mk rfl) Try.underlying3 trivial (by omega) (rowI2 (by omega))) rfl ?_
              refine St.nil ?_
              refine St.then_normal ?_
              refine St.defer 14 (by repeat (first | refine NP.then ?_ | refine NP.inBlock ?_ | exact NP.body)) (by kernel_rfl) rfl (Es.idx (k := x.1.length) hsh (Opd.mk rfl) (Opd.mk rfl) Try.underlying22 sz3 (by omega) (by omega)) (by kernel_rfl) rfl ?_
              refine St.any2 (i := 4) (j := 15) (by kernel_rfl) rfl rfl ?_ ?_
              · skip
                refine St.ev _ (Ev.sub (Opd.mk rfl) (Opd.mk rfl) (by omega)) rfl ?_
                refine St.nil ?_
                refine St.then_normal ?_
                refine St.any1 (i := 15) (by kernel_rfl) rfl ?_
                refine St.storerow (Opd.mk rfl) (Opd.mk rfl) sz3 rfl (by omega) (by decide) ?_
                refine St.nil ?_
                refine St.then_normal ?_
                refine St.defer 16 (by repeat (first | refine NP.then ?_ | refine NP.inBlock ?_ | exact NP.body)) (by kernel_rfl) rfl (Es.idx (k := (x.1.length - 1)) hsh (Opd.mk rfl) (Opd.mk rfl) Try.underlying22 sz3 (by omega) (by omega)) (by kernel_rfl) rfl ?_
                refine St.any1 (i := 17) (by kernel_rfl) rfl ?_
                refine St.storerow (Opd.mk rfl) (Opd.mk rfl) sz3 rfl (by omega) (by decide) ?_
                refine St.nil ?_
                refine St.then_normal ?_
                refine St.any_done (by kernel_rfl) ?_
                refine St.then_normal ?_
                refine St.rowEq v16 (show _ = rows intR (ints (A ++ k :: a :: x.2)) by rw [← esw]; first | exact swap_rows | (rw [rowI2_set, rowI2_set])) ?_
                refine St.met () trivial (by repeat (first | exact Sub.nil | refine Sub.cons (by first | rfl | exact congrArg (fun z => some (iv z)) (by first | omega | (dsimp only; omega)) | exact congrArg (fun z => some (Value.bool z)) (by first | assumption | exact Eq.symm (by assumption))) ?_)) (fun _ hw => hw.sub)
              · skip
                refine St.storerow (Opd.mk rfl) (Opd.mk rfl) sz3 rfl (by omega) (by decide) ?_
                refine St.nil ?_
                refine St.then_normal ?_
                refine St.any1 (i := 4) (by kernel_rfl) rfl ?_
                refine St.ev _ (Ev.sub (Opd.mk rfl) (Opd.mk rfl) (by omega)) rfl ?_
                refine St.nil ?_
                refine St.then_normal ?_
                refine St.defer 16 (by repeat (first | refine NP.then ?_ | refine NP.inBlock ?_ | exact NP.body)) (by kernel_rfl) rfl (Es.idx (k := (x.1.length - 1)) hsh (Opd.mk rfl) (Opd.mk rfl) Try.underlying22 sz3 (by omega) (by omega)) (by kernel_rfl) rfl ?_
                refine St.any1 (i := 17) (by kernel_rfl) rfl ?_
                refine St.storerow (Opd.mk rfl) (Opd.mk rfl) sz3 rfl (by omega) (by decide) ?_
                refine St.nil ?_
                refine St.then_normal ?_
                refine St.any_done (by kernel_rfl) ?_
                refine St.then_normal ?_
                refine St.rowEq v16 (show _ = rows intR (ints (A ++ k :: a :: x.2)) by rw [← esw]; first | exact swap_rows | (rw [rowI2_set, rowI2_set])) ?_
                refine St.met () trivial (by repeat (first | exact Sub.nil | refine Sub.cons (by first | rfl | exact congrArg (fun z => some (iv z)) (by first | omega | (dsimp only; omega)) | exact congrArg (fun z => some (Value.bool z)) (by first | assumption | exact Eq.symm (by assumption))) ?_)) (fun _ hw => hw.sub)
          · skip
            refine St.ev _ (Ev.ldrow (Opd.mk rfl) Try.underlying3 trivial (by omega) (rowI2 (by omega))) rfl ?_
            refine St.nil ?_
            refine St.then_normal ?_
            refine St.any2 (i := 4) (j := 9) (by kernel_rfl) rfl rfl ?_ ?_
            · skip
              refine St.ev _ (Ev.sub (Opd.mk rfl) (Opd.mk rfl) (by omega)) rfl ?_
              refine St.nil ?_
              refine St.then_normal ?_
              refine St.any1 (i := 9) (by kernel_rfl) rfl ?_
              refine St.ev _ (Ev.ldrow (Opd.mk rfl) Try.underlying3 trivial (by omega) (rowI2 (by omega))) rfl ?_
              refine St.nil ?_
              refine St.then_normal ?_
              refine St.defer 14 (by repeat (first | refine NP.then ?_ | refine NP.inBlock ?_ | exact NP.body)) (by kernel_rfl) rfl (Es.idx (k := x.1.length) hsh (Opd.mk rfl) (Opd.mk rfl) Try.underlying22 sz3 (by omega) (by omega)) (by kernel_rfl) rfl ?_
              refine St.any1 (i := 15) (by kernel_rfl) rfl ?_
              refine St.storerow (Opd.mk rfl) (Opd.mk rfl) sz3 rfl (by omega) (by decide) ?_
              refine St.nil ?_
              refine St.then_normal ?_
              refine St.defer 16 (by repeat (first | refine NP.then ?_ | refine NP.inBlock ?_ | exact NP.body)) (by kernel_rfl) rfl (Es.idx (k := (x.1.length - 1)) hsh (Opd.mk rfl) (Opd.mk rfl) Try.underlying22 sz3 (by omega) (by omega)) (by kernel_rfl) rfl ?_
              refine St.any1 (i := 17) (by kernel_rfl) rfl ?_
              refine St.storerow (Opd.mk rfl) (Opd.mk rfl) sz3 rfl (by omega) (by decide) ?_
              refine St.nil ?_
              refine St.then_normal ?_
              refine St.any_done (by kernel_rfl) ?_
              refine St.then_normal ?_
              refine St.rowEq v16 (show _ = rows intR (ints (A ++ k :: a :: x.2)) by rw [← esw]; first | exact swap_rows | (rw [rowI2_set, rowI2_set])) ?_
              refine St.met () trivial (by repeat (first | exact Sub.nil | refine Sub.cons (by first | rfl | exact congrArg (fun z => some (iv z)) (by first | omega | (dsimp only; omega)) | exact congrArg (fun z => some (Value.bool z)) (by first | assumption | exact Eq.symm (by assumption))) ?_)) (fun _ hw => hw.sub)
            · skip
              refine St.ev _ (Ev.ldrow (Opd.mk rfl) Try.underlying3 trivial (by omega) (rowI2 (by omega))) rfl ?_
              refine St.nil ?_
              refine St.then_normal ?_
              refine St.defer 14 (by repeat (first | refine NP.then ?_ | refine NP.inBlock ?_ | exact NP.body)) (by kernel_rfl) rfl (Es.idx (k := x.1.length) hsh (Opd.mk rfl) (Opd.mk rfl) Try.underlying22 sz3 (by omega) (by omega)) (by kernel_rfl) rfl ?_
              refine St.any2 (i := 4) (j := 15) (by kernel_rfl) rfl rfl ?_ ?_
              · skip
                refine St.ev _ (Ev.sub (Opd.mk rfl) (Opd.mk rfl) (by omega)) rfl ?_
                refine St.nil ?_
                refine St.then_normal ?_
                refine St.any1 (i := 15) (by kernel_rfl) rfl ?_
                refine St.storerow (Opd.mk rfl) (Opd.mk rfl) sz3 rfl (by omega) (by decide) ?_
                refine St.nil ?_
                refine St.then_normal ?_
                refine St.defer 16 (by repeat (first | refine NP.then ?_ | refine NP.inBlock ?_ | exact NP.body)) (by kernel_rfl) rfl (Es.idx (k := (x.1.length - 1)) hsh (Opd.mk rfl) (Opd.mk rfl) Try.underlying22 sz3 (by omega) (by omega)) (by kernel_rfl) rfl ?_
                refine St.any1 (i := 17) (by kernel_rfl) rfl ?_
                refine St.storerow (Opd.mk rfl) (Opd.mk rfl) sz3 rfl (by omega) (by decide) ?_
                refine St.nil ?_
                refine St.then_normal ?_
                refine St.any_done (by kernel_rfl) ?_
                refine St.then_normal ?_
                refine St.rowEq v16 (show _ = rows intR (ints (A ++ k :: a :: x.2)) by rw [← esw]; first | exact swap_rows | (rw [rowI2_set, rowI2_set])) ?_
                refine St.met () trivial (by repeat (first | exact Sub.nil | refine Sub.cons (by first | rfl | exact congrArg (fun z => some (iv z)) (by first | omega | (dsimp only; omega)) | exact congrArg (fun z => some (Value.bool z)) (by first | assumption | exact Eq.symm (by assumption))) ?_)) (fun _ hw => hw.sub)
              · skip
                refine St.storerow (Opd.mk rfl) (Opd.mk rfl) sz3 rfl (by omega) (by decide) ?_
                refine St.nil ?_
                refine St.then_normal ?_
                refine St.any1 (i := 4) (by kernel_rfl) rfl ?_
                refine St.ev _ (Ev.sub (Opd.mk rfl) (Opd.mk rfl) (by omega)) rfl ?_
                refine St.nil ?_
                refine St.then_normal ?_
                refine St.defer 16 (by repeat (first | refine NP.then ?_ | refine NP.inBlock ?_ | exact NP.body)) (by kernel_rfl) rfl (Es.idx (k := (x.1.length - 1)) hsh (Opd.mk rfl) (Opd.mk rfl) Try.underlying22 sz3 (by omega) (by omega)) (by kernel_rfl) rfl ?_
                refine St.any1 (i := 17) (by kernel_rfl) rfl ?_
                refine St.storerow (Opd.mk rfl) (Opd.mk rfl) sz3 rfl (by omega) (by decide) ?_
                refine St.nil ?_
                refine St.then_normal ?_
                refine St.any_done (by kernel_rfl) ?_
                refine St.then_normal ?_
                refine St.rowEq v16 (show _ = rows intR (ints (A ++ k :: a :: x.2)) by rw [← esw]; first | exact swap_rows | (rw [rowI2_set, rowI2_set])) ?_
                refine St.met () trivial (by repeat (first | exact Sub.nil | refine Sub.cons (by first | rfl | exact congrArg (fun z => some (iv z)) (by first | omega | (dsimp only; omega)) | exact congrArg (fun z => some (Value.bool z)) (by first | assumption | exact Eq.symm (by assumption))) ?_)) (fun _ hw => hw.sub)
        · skip
          refine St.ev _ (Ev.ldrow (Opd.mk rfl) Try.underlying3 trivial (by omega) (rowI2 (by omega))) rfl ?_
          refine St.nil ?_
          refine St.then_normal ?_
          refine St.any2 (i := 4) (j := 7) (by kernel_rfl) rfl rfl ?_ ?_
          · skip
            refine St.ev _ (Ev.sub (Opd.mk rfl) (Opd.mk rfl) (by omega)) rfl ?_
            refine St.nil ?_
            refine St.then_normal ?_
            refine St.any1 (i := 7) (by kernel_rfl) rfl ?_
            refine St.ev _ (Ev.sub (Opd.mk rfl) (Opd.mk rfl) (by omega)) rfl ?_
            refine St.nil ?_
            refine St.then_normal ?_
            refine St.defer 8 (by repeat (first | refine NP.then ?_ | refine NP.inBlock ?_ | exact NP.body)) (by kernel_rfl) rfl (Es.idx (k := (x.1.length - 1)) hsh (Opd.mk rfl) (Opd.mk rfl) Try.underlying22 sz3 (by omega) (by omega)) (by kernel_rfl) rfl ?_
            refine St.any1 (i := 9) (by kernel_rfl) rfl ?_
            refine St.ev _ (Ev.ldrow (Opd.mk rfl) Try.underlying3 trivial (by omega) (rowI2 (by omega))) rfl ?_
            refine St.nil ?_
            refine St.then_normal ?_
            refine St.defer 14 (by repeat (first | refine NP.then ?_ | refine NP.inBlock ?_ | exact NP.body)) (by kernel_rfl) rfl (Es.idx (k := x.1.length) hsh (Opd.mk rfl) (Opd.mk rfl) Try.underlying22 sz3 (by omega) (by omega)) (by kernel_rfl) rfl ?_
            refine St.any1 (i := 15) (by kernel_rfl) rfl ?_
            refine St.storerow (Opd.mk rfl) (Opd.mk rfl) sz3 rfl (by omega) (by decide) ?_
            refine St.nil ?_
            refine St.then_normal ?_
            refine St.defer 16 (by repeat (first | refine NP.then ?_ | refine NP.inBlock ?_ | exact NP.body)) (by kernel_rfl) rfl (Es.idx (k := (x.1.length - 1)) hsh (Opd.mk rfl) (Opd.mk rfl) Try.underlying22 sz3 (by omega) (by omega)) (by kernel_rfl) rfl ?_
            refine St.any1 (i := 17) (by kernel_rfl) rfl ?_
            refine St.storerow (Opd.mk rfl) (Opd.mk rfl) sz3 rfl (by omega) (by decide) ?_
            refine St.nil ?_
            refine St.then_normal ?_
            refine St.any_done (by kernel_rfl) ?_
            refine St.then_normal ?_
            refine St.rowEq v16 (show _ = rows intR (ints (A ++ k :: a :: x.2)) by rw [← esw]; first | exact swap_rows | (rw [rowI2_set, rowI2_set])) ?_
            refine St.met () trivial (by repeat (first | exact Sub.nil | refine Sub.cons (by first | rfl | exact congrArg (fun z => some (iv z)) (by first | omega | (dsimp only; omega)) | exact congrArg (fun z => some (Value.bool z)) (by first | assumption | exact Eq.symm (by assumption))) ?_)) (fun _ hw => hw.sub)
          · skip
            refine St.ev _ (Ev.sub (Opd.mk rfl) (Opd.mk rfl) (by omega)) rfl ?_
            refine St.nil ?_
            refine St.then_normal ?_
            refine St.defer 8 (by repeat (first | refine NP.then ?_ | refine NP.inBlock ?_ | exact NP.body)) (by kernel_rfl) rfl (Es.idx (k := (x.1.length - 1)) hsh (Opd.mk rfl) (Opd.mk rfl) Try.underlying22 sz3 (by omega) (by omega)) (by kernel_rfl) rfl ?_
            refine St.any2 (i := 4) (j := 9) (by kernel_rfl) rfl rfl ?_ ?_
            · skip
              refine St.ev _ (Ev.sub (Opd.mk rfl) (Opd.mk rfl) (by omega)) rfl ?_
              refine St.nil ?_
              refine St.then_normal ?_
              refine St.any1 (i := 9) (by kernel_rfl) rfl ?_
              refine St.ev _ (Ev.ldrow (Opd.mk rfl) Try.underlying3 trivial (by omega) (rowI2 (by omega))) rfl ?_
              refine St.nil ?_
              refine St.then_normal ?_
              refine St.defer 14 (by repeat (first | refine NP.then ?_ | refine NP.inBlock ?_ | exact NP.body)) (by kernel_rfl) rfl (Es.idx (k := x.1.length) hsh (Opd.mk rfl) (Opd.mk rfl) Try.underlying22 sz3 (by omega) (by omega)) (by kernel_rfl) rfl ?_
              refine St.any1 (i := 15) (by kernel_rfl) rfl ?_
              refine St.storerow (Opd.mk rfl) (Opd.mk rfl) sz3 rfl (by omega) (by decide) ?_
              refine St.nil ?_
              refine St.then_normal ?_
              refine St.defer 16 (by repeat (first | refine NP.then ?_ | refine NP.inBlock ?_ | exact NP.body)) (by kernel_rfl) rfl (Es.idx (k := (x.1.length - 1)) hsh (Opd.mk rfl) (Opd.mk rfl) Try.underlying22 sz3 (by omega) (by omega)) (by kernel_rfl) rfl ?_
              refine St.any1 (i := 17) (by kernel_rfl) rfl ?_
              refine St.storerow (Opd.mk rfl) (Opd.mk rfl) sz3 rfl (by omega) (by decide) ?_
              refine St.nil ?_
              refine St.then_normal ?_
              refine St.any_done (by kernel_rfl) ?_
              refine St.then_normal ?_
              refine St.rowEq v16 (show _ = rows intR (ints (A ++ k :: a :: x.2)) by rw [← esw]; first | exact swap_rows | (rw [rowI2_set, rowI2_set])) ?_
              refine St.met () trivial (by repeat (first | exact Sub.nil | refine Sub.cons (by first | rfl | exact congrArg (fun z => some (iv z)) (by first | omega | (dsimp only; omega)) | exact congrArg (fun z => some (Value.bool z)) (by first | assumption | exact Eq.symm (by assumption))) ?_)) (fun _ hw => hw.sub)
            · skip
              refine St.ev _ (Ev.ldrow (Opd.mk rfl) Try.underlying3 trivial (by omega) (rowI2 (by omega))) rfl ?_
              refine St.nil ?_
              refine St.then_normal ?_
              refine St.defer 14 (by repeat (first | refine NP.then ?_ | refine NP.inBlock ?_ | exact NP.body)) (by kernel_rfl) rfl (Es.idx (k := x.1.length) hsh (Opd.mk rfl) (Opd.mk rfl) Try.underlying22 sz3 (by omega) (by omega)) (by kernel_rfl) rfl ?_
              refine St.any2 (i := 4) (j := 15) (by kernel_rfl) rfl rfl ?_ ?_
              · skip
                refine St.ev _ (Ev.sub (Opd.mk rfl) (Opd.mk rfl) (by omega)) rfl ?_
                refine St.nil ?_
                refine St.then_normal ?_
                refine St.any1 (i := 15) (by kernel_rfl) rfl ?_
                refine St.storerow (Opd.mk rfl) (Opd.mk rfl) sz3 rfl (by omega) (by decide) ?_
                refine St.nil ?_
                refine St.then_normal ?_
                refine St.defer 16 (by repeat (first | refine NP.then ?_ | refine NP.inBlock ?_ | exact NP.body)) (by kernel_rfl) rfl (Es.idx (k := (x.1.length - 1)) hsh (Opd.mk rfl) (Opd.mk rfl) Try.underlying22 sz3 (by omega) (by omega)) (by kernel_rfl) rfl ?_
                refine St.any1 (i := 17) (by kernel_rfl) rfl ?_
                refine St.storerow (Opd.mk rfl) (Opd.mk rfl) sz3 rfl (by omega) (by decide) ?_
                refine St.nil ?_
                refine St.then_normal ?_
                refine St.any_done (by kernel_rfl) ?_
                refine St.then_normal ?_
                refine St.rowEq v16 (show _ = rows intR (ints (A ++ k :: a :: x.2)) by rw [← esw]; first | exact swap_rows | (rw [rowI2_set, rowI2_set])) ?_
                refine St.met () trivial (by repeat (first | exact Sub.nil | refine Sub.cons (by first | rfl | exact congrArg (fun z => some (iv z)) (by first | omega | (dsimp only; omega)) | exact congrArg (fun z => some (Value.bool z)) (by first | assumption | exact Eq.symm (by assumption))) ?_)) (fun _ hw => hw.sub)
              · skip
                refine St.storerow (Opd.mk rfl) (Opd.mk rfl) sz3 rfl (by omega) (by decide) ?_
                refine St.nil ?_
                refine St.then_normal ?_
                refine St.any1 (i := 4) (by kernel_rfl) rfl ?_
                refine St.ev _ (Ev.sub (Opd.mk rfl) (Opd.mk rfl) (by omega)) rfl ?_
                refine St.nil ?_
                refine St.then_normal ?_
                refine St.defer 16 (by repeat (first | refine NP.then ?_ | refine NP.inBlock ?_ | exact NP.body)) (by kernel_rfl) rfl (Es.idx (k := (x.1.length - 1)) hsh (Opd.mk rfl) (Opd.mk rfl) Try.underlying22 sz3 (by omega) (by omega)) (by kernel_rfl) rfl ?_
                refine St.any1 (i := 17) (by kernel_rfl) rfl ?_
                refine St.storerow (Opd.mk rfl) (Opd.mk rfl) sz3 rfl (by omega) (by decide) ?_
                refine St.nil ?_
                refine St.then_normal ?_
                refine St.any_done (by kernel_rfl) ?_
                refine St.then_normal ?_
                refine St.rowEq v16 (show _ = rows intR (ints (A ++ k :: a :: x.2)) by rw [← esw]; first | exact swap_rows | (rw [rowI2_set, rowI2_set])) ?_
                refine St.met () trivial (by repeat (first | exact Sub.nil | refine Sub.cons (by first | rfl | exact congrArg (fun z => some (iv z)) (by first | omega | (dsimp only; omega)) | exact congrArg (fun z => some (Value.bool z)) (by first | assumption | exact Eq.symm (by assumption))) ?_)) (fun _ hw => hw.sub)
      · skip
        intro u hphi
        refine St.rg ?_
        refine St.ev _ (Ev.move (Opd.mk rfl)) rfl ?_
        refine St.ev _ (Ev.sub (Opd.mk rfl) (Opd.mk rfl) (by omega)) rfl ?_
        refine St.ev _ (Ev.assign (Opd.mk rfl)) rfl ?_
        refine St.nil ?_
        refine St.in_normal ?_
        refine St.then_normal ?_
        refine St.againH (A, a :: x.2) ⟨hin2, by show A.length + (a :: x.2).length = k; rw [List.length_cons]; omega⟩ (by show A.length < x.1.length; omega) (by repeat (first | exact Sub.nil | refine Sub.cons (by first | rfl | exact congrArg (fun z => some (iv z)) (by first | omega | (dsimp only; omega)) | exact congrArg (fun z => some (Value.bool z)) (by first | assumption | exact Eq.symm (by assumption))) ?_)) (fun _ hw => hw.sub)
    · skip
      try simp only [Bool.and_true, Bool.true_and, decide_eq_true_eq, decide_eq_false_iff_not, Bool.and_eq_true, Bool.or_eq_true, Bool.and_eq_false_iff, Bool.or_eq_false_iff, Bool.not_eq_true', Bool.not_eq_false', beq_iff_eq, beq_eq_false_iff_ne, Int.not_lt, Int.not_le] at h34
      have hdn := hin.done (by omega) (by
        rcases Nat.eq_zero_or_pos x.1.length with q | q
        · exact .inl (List.eq_nil_of_length_eq_zero q)
        · obtain ⟨A, a, hA⟩ := last_of (A := x.1) q
          refine .inr ⟨A, a, hA, ?_⟩
          rcases h34 with h34 | h34
          · omega
          · rw [getD_mid rfl] at h34
            rw [hA, List.append_assoc, List.singleton_append, getD_mid (by simp)] at h34
            exact h34)
      refine St.exit ?_
      refine St.then_exit ?_
      refine St.then_exit ?_
      refine St.in_hit ?_
      refine St.in_normal ?_
      refine St.then_normal ?_
      refine St.rg ?_
      refine St.ev _ (Ev.move (Opd.mk rfl)) rfl ?_
      refine St.ev _ (Ev.add (Opd.mk rfl) (Opd.mk rfl) (by omega)) rfl ?_
      refine St.ev _ (Ev.assign (Opd.mk rfl)) rfl ?_
      refine St.nil ?_
      refine St.then_normal ?_
      refine St.againH2 (k + 1, x.1 ++ k :: x.2) v16 ⟨by show k + 1 ≤ _; omega, h1, hdn.1, hdn.2⟩ (by first | omega | (dsimp only; omega)) (by repeat (first | exact Sub.nil | refine Sub.cons (by first | rfl | exact congrArg (fun z => some (iv z)) (by first | omega | (dsimp only; omega)) | exact congrArg (fun z => some (Value.bool z)) (by first | assumption | exact Eq.symm (by assumption))) ?_)) (fun _ hw => hw.sub)
  · skip
    try simp only [Bool.and_true, Bool.true_and, decide_eq_true_eq, decide_eq_false_iff_not, Bool.and_eq_true, Bool.or_eq_true, Bool.and_eq_false_iff, Bool.or_eq_false_iff, Bool.not_eq_true', Bool.not_eq_false', beq_iff_eq, beq_eq_false_iff_ne, Int.not_lt, Int.not_le] at h10
    refine St.exit ?_
    refine St.then_exit ?_
    refine St.then_exit ?_
    refine St.in_hit ?_
    refine St.then_normal ?_
    refine St.seq ?_
    refine St.rg ?_
    refine St.ev _ (Ev.move (Opd.mk rfl)) rfl ?_
    refine St.ev _ (Ev.assign (Opd.mk rfl)) rfl ?_
    refine St.nil ?_
    refine St.then_normal ?_
    refine St.rett ?_
    obtain rfl : k = p.length := by omega
    have e := sufOf_eq (suf_of hpm hsx)
    rw [e]
    refine St.rowEqN v (show _ = (sufOf p).length by rw [suf_len]) rfl ?_
    refine St.rets [_] [row v 3 1 (sufOf p).length (rows intR (ints (sufOf p)))] Try.results16 ⟨rfl, trivial⟩ ?_ (fun _ hw => hw.sub)
    exact ⟨hv1, rfl⟩

theorem Find_spec (v0 v1 v2 : Value) (p ord part : List Int) (hsz : part.length ≤ 4611686018427387904) :
    FnH Try.prog 17 #[v0, v1, v2] ([sl intR v0 p, sl intR v1 ord, sl intR v2 part].map dat) (fun u H' => ∃ u0 : Value, u = .tuple #[u0, fv (bothF p ord)] ∧ u0.oneCell' = true ∧ H' = [row u0 3 1 (fnd p ord part).length (rows intR (ints (fnd p ord part)))]) := by
  refine FnH.body (args := [v0, v1, v2]) 38 Try.func17 rfl Try.ntmps17 rfl (fun c => ?_)
  refine St.seq ?_
  refine St.cast (H' := [dat (sl intR v0 p), dat (sl intR v1 ord), dat (sl intR v2 part)]) rfl ?_
  refine St.shape v0 (fun ad0 cp0 hsh0 _ => ?_)
  refine St.shape v1 (fun ad1 cp1 hsh1 _ => ?_)
  refine St.shape v2 (fun ad2 cp2 hsh2 _ => ?_)
  have hv0 : v0.oneCell' = true := by rw [hsh0]; rfl
  have hv1 : v1.oneCell' = true := by rw [hsh1]; rfl
  have hv2 : v2.oneCell' = true := by rw [hsh2]; rfl
  refine St.rg ?_
  refine St.box1 (Opd.mk rfl) hv0 rfl (fun b3 => ?_)
  refine St.box1 (Opd.mk rfl) hv1 rfl (fun b4 => ?_)
  refine St.box1 (Opd.mk rfl) hv2 rfl (fun b5 => ?_)
  refine St.ev _ (Ev.assign (Opd.mk rfl)) rfl ?_
  refine St.alloc zc25 rfl (fun b7 => ?_)
  refine St.nil ?_
  refine St.then_normal ?_
  refine St.seq ?_
  refine St.seq ?_
  refine St.rg ?_
  refine St.ev _ (Ev.ldb (Opd.mk rfl) Try.underlying22 trivial (by rfl)) rfl ?_
  refine St.ev _ (Ev.ldb (Opd.mk rfl) Try.underlying22 trivial (by rfl)) rfl ?_
  refine St.ev _ (Ev.call (both_spec v0 v1 p ord) cb27 (Opds.cons (Opd.mk rfl) (Opds.cons (Opd.mk rfl) Opds.nil))) rfl ?_
  refine St.alloc zc25 rfl (fun b8 => ?_)
  refine St.storeA (Opd.mk rfl) (Opd.mk rfl) sz25 (by first | simp only [List.length_cons, List.length_nil] | rfl) rfl ?_
  refine St.nil ?_
  refine St.then_normal ?_
  refine St.seq ?_
  refine St.rg ?_
  refine St.ev _ (Ev.fldb0 (Opd.mk rfl) fo25_0) rfl ?_
  refine St.ev _ (Ev.ldb (Opd.mk rfl) Try.underlying3 trivial (by rfl)) rfl ?_
  refine St.ev _ (Ev.neq (Opd.mk rfl) (Opd.mk rfl)) rfl ?_
  refine St.nil ?_
  refine St.then_normal ?_
  refine St.cond _ rfl (fun h18 => ?_) (fun h18 => ?_)
  · skip
    try simp only [Bool.and_true, Bool.true_and, decide_eq_true_eq, decide_eq_false_iff_not, Bool.and_eq_true, Bool.or_eq_true, Bool.and_eq_false_iff, Bool.or_eq_false_iff, Bool.not_eq_true', Bool.not_eq_false', beq_iff_eq, beq_eq_false_iff_ne, Int.not_lt, Int.not_le] at h18
    refine St.seq ?_
    refine St.par [b7] mixed ?_
    refine SW.defer 0 (by repeat (first | refine NP.then ?_ | refine NP.inBlock ?_ | exact NP.body)) (by kernel_rfl) rfl (fun R => Ev.ldbA (Opd.mk rfl) Try.underlying25 trivial (by exact sz25)) (by kernel_rfl) rfl ?_
    refine SW.defer 1 (by repeat (first | refine NP.then ?_ | refine NP.inBlock ?_ | exact NP.body)) (by kernel_rfl) rfl (fun R => Ev.assign (Opd.mk rfl)) (by kernel_rfl) rfl ?_
    refine SW.turn1 (i := 2) (by kernel_rfl) rfl ?_
    refine St.storeA (Opd.mk rfl) (Opd.mk rfl) sz25 (by first | simp only [List.length_cons, List.length_nil] | rfl) rfl ?_
    refine St.nil ?_
    refine St.then_normal ?_
    refine SW.go ?_
    refine SW.done (by kernel_rfl) ?_
    refine St.then_normal ?_
    refine St.rett ?_
    refine St.then_ret ?_
    refine St.nilrow 3 1 ?_
    refine St.rets [_, _] [row (.slice none 0 0) 3 1 0 []] Try.results17 ⟨rfl, ⟨⟨_, _, _, _, rfl, InB.mem, .inl ⟨⟨_, Try.underlying25⟩, sz25, rfl⟩⟩, trivial⟩⟩ ?_ (fun _ hw => hw.sub)
    rw [fnd_f h18]; exact ⟨_, rfl, rfl, rfl⟩
  · skip
    try simp only [Bool.and_true, Bool.true_and, decide_eq_true_eq, decide_eq_false_iff_not, Bool.and_eq_true, Bool.or_eq_true, Bool.and_eq_false_iff, Bool.or_eq_false_iff, Bool.not_eq_true', Bool.not_eq_false', beq_iff_eq, beq_eq_false_iff_ne, Int.not_lt, Int.not_le] at h18
    clear hsh0 hsh1 hsh2
    obtain ⟨hf0, ho⟩ := bothF_ok (p := p) (ord := ord) (by omega)
    have hbz := bothF_3 hf0 ho
    subst ho
    have hok := sFault_ok hf0
    have hln := suf_len p
    have hli := ints_length (sufOf p)
    have hcut := places_cut (part := part) (sufOf_is p) rfl rfl
    obtain ⟨hc1, hc2, hc3⟩ := hcut
    refine St.skip ?_
    refine St.then_normal ?_
    refine St.seq ?_
    refine St.rg ?_
    refine St.ev _ (Ev.func (Opds.cons (Opd.mk rfl) (Opds.cons (Opd.mk rfl) Opds.nil))) rfl ?_
    refine St.alloc zc46 rfl (fun b9 => ?_)
    refine St.store1 (Opd.mk rfl) (Opd.mk rfl) sz46 rfl (by rfl) ?_
    refine St.nil ?_
    refine St.then_normal ?_
    refine St.seq ?_
    refine St.rg ?_
    refine St.ev _ (Ev.ldb (Opd.mk rfl) Try.underlying22 trivial (by rfl)) rfl ?_
    refine St.ev _ (Ev.lensl (Opd.mk rfl) Try.underlying22) rfl ?_
    rw [hli]
    refine St.ev _ (Ev.func (Opds.cons (Opd.mk rfl) (Opds.cons (Opd.mk rfl) (Opds.cons (Opd.mk rfl) Opds.nil)))) rfl ?_
    refine St.ev _ (Ev.callL (Search_spec (sufOf p).length (by omega) (fun k => !llt (pre p part.length ((sufOf p).getD k 0)) part) suf_q1 30 cb30 [Value.pointer (some ⟨b9, 0, none⟩), Value.pointer (some ⟨b4, 0, none⟩), Value.pointer (some ⟨b5, 0, none⟩)] (allD [cel b9 (.func (.func 28) #[] #[Value.pointer (some ⟨b3, 0, none⟩), Value.pointer (some ⟨b5, 0, none⟩)]), cel b4 v1, cel b5 v2, cel b3 v0, sl intR v0 p, sl intR v1 (ints (sufOf p)), sl intR v2 part]) (fun k hk => (find2_spec v0 v1 v2 p part (sufOf p) hok.1 hsz (sufOf_is p).1 b3 b5 b9 b4 k hk).all)) cb29 (Opds.cons (Opd.mk rfl) (Opds.cons (Opd.mk rfl) Opds.nil)) (Lent.allD (Lent.blk (Lent.blk (Lent.blk (Lent.blk (Lent.dat (Lent.dat (Lent.dat Lent.nil))))))))) rfl ?_
    refine St.ev _ (Ev.assign (Opd.mk rfl)) rfl ?_
    refine St.nil ?_
    refine St.then_normal ?_
    refine St.seq ?_
    refine St.rg ?_
    refine St.ev _ (Ev.ldb (Opd.mk rfl) Try.underlying22 trivial (by rfl)) rfl ?_
    refine St.ev _ (Ev.lensl (Opd.mk rfl) Try.underlying22) rfl ?_
    rw [hli]
    refine St.ev _ (Ev.func (Opds.cons (Opd.mk rfl) (Opds.cons (Opd.mk rfl) (Opds.cons (Opd.mk rfl) Opds.nil)))) rfl ?_
    refine St.ev _ (Ev.callL (Search_spec (sufOf p).length (by omega) (fun k => llt part (pre p part.length ((sufOf p).getD k 0))) suf_q2 32 cb32 [Value.pointer (some ⟨b9, 0, none⟩), Value.pointer (some ⟨b4, 0, none⟩), Value.pointer (some ⟨b5, 0, none⟩)] (allD [cel b9 (.func (.func 28) #[] #[Value.pointer (some ⟨b3, 0, none⟩), Value.pointer (some ⟨b5, 0, none⟩)]), cel b4 v1, cel b5 v2, cel b3 v0, sl intR v0 p, sl intR v1 (ints (sufOf p)), sl intR v2 part]) (fun k hk => (find3_spec v0 v1 v2 p part (sufOf p) hok.1 hsz (sufOf_is p).1 b3 b5 b9 b4 k hk).all)) cb29 (Opds.cons (Opd.mk rfl) (Opds.cons (Opd.mk rfl) Opds.nil)) (Lent.allD (Lent.blk (Lent.blk (Lent.blk (Lent.blk (Lent.dat (Lent.dat (Lent.dat Lent.nil))))))))) rfl ?_
    refine St.ev _ (Ev.assign (Opd.mk rfl)) rfl ?_
    refine St.nil ?_
    refine St.then_normal ?_
    refine St.seq ?_
    generalize hga : ((List.range (sufOf p).length).countP (fun k => !(!llt (pre p part.length ((sufOf p).getD k 0)) part))) = ca at hc1 hc2 hc3 ⊢
    generalize hgb : ((List.range (sufOf p).length).countP (fun k => !(llt part (pre p part.length ((sufOf p).getD k 0))))) = cb at hc1 hc2 hc3 ⊢
    refine St.part v1 ca cb hc1 (by omega) ?_
    have hgl : (((sufOf p).drop ca).take (cb - ca)).length = cb - ca := by simp; omega
    rw [show ((ints (sufOf p)).drop ca).take (cb - ca) = ints (((sufOf p).drop ca).take (cb - ca)) by simp [ints, List.map_drop, List.map_take], show intR.size = 1 from rfl]
    have hsp := sort_perm hc3 (placesOf_sorted p part)
    have hpl := hc3.length_eq
    generalize hgx : ((sufOf p).drop ca).take (cb - ca) = xs at hgl hc3 hsp hpl ⊢
    have hxl := ints_length xs
    refine St.rg ?_
    refine St.ev _ (Ev.ldb (Opd.mk rfl) Try.underlying22 trivial (by rfl)) rfl ?_
    refine St.ev _ (Ev.move (Opd.mk rfl)) rfl ?_
    refine St.ev _ (Ev.move (Opd.mk rfl)) rfl ?_
    refine St.ev _ (Ev.slicesl (l := ca) (h := cb) (Opd.mk rfl) (Opd.mk rfl) (Opd.mk rfl) Try.underlying22 sz3 (by omega) (by omega) hc1 (by omega)) rfl ?_
    refine St.calld (Clone_spec (slv v1 1 ca cb) (ints xs) (by omega)) cb33 (Opds.cons (Opd.mk rfl) Opds.nil) rfl ?_
    rintro v33 _ ⟨h1, rfl⟩
    refine St.app1 ?_
    refine St.ev _ (Ev.assign (Opd.mk rfl)) rfl ?_
    refine St.nil ?_
    refine St.then_normal ?_
    refine St.seq ?_
    refine St.rg ?_
    refine St.ev _ (Ev.move (Opd.mk rfl)) rfl ?_
    refine St.call (sort34_spec v33 (ints xs) (by omega)) cb34 (Opds.cons (Opd.mk rfl) Opds.nil) rfl ?_
    rintro v35 _ ⟨rfl, rfl⟩
    refine St.app1 ?_
    refine St.rowEqN v33 (show _ = (placesOf p part).length by rw [← hpl]; exact hxl) (show _ = rows intR (ints (placesOf p part)) by rw [hsp]) ?_
    refine St.nil ?_
    refine St.then_normal ?_
    refine St.seq ?_
    refine St.rg ?_
    refine St.ev _ (Ev.move (Opd.mk rfl)) rfl ?_
    refine St.ev _ (Ev.build (ps := []) (Opds.nil) (fun w => bld25_  w)) rfl ?_
    refine St.ev _ (Ev.assign (Opd.mk rfl)) rfl ?_
    refine St.storeA (Opd.mk rfl) (Opd.mk rfl) sz25 (by first | simp only [List.length_cons, List.length_nil] | rfl) rfl ?_
    refine St.nil ?_
    refine St.then_normal ?_
    refine St.rett ?_
    refine St.rets [_, _] [row v33 3 1 (placesOf p part).length (rows intR (ints (placesOf p part)))] Try.results17 ⟨rfl, ⟨⟨_, _, _, _, rfl, InB.mem, .inl ⟨⟨_, Try.underlying25⟩, sz25, rfl⟩⟩, trivial⟩⟩ ?_ (fun _ hw => hw.sub)
    rw [fnd_t (by rw [hbz]), hbz]; exact ⟨_, rfl, h1, rfl⟩

end Go.Proofs.Ytblmnncmkibhnaa
