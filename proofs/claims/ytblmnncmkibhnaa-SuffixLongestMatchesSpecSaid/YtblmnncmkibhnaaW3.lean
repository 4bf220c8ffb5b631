/-
  The walk of the sort of suffixes.
  Conditions: a list of at most 2000 numbers.
-/
import Derived.Test.YtblmnncmkibhnaaW2
import Derived.Test.YtblmnncmkibhnaaJ12
set_option linter.unusedSimpArgs false
set_option linter.unusedVariables false
namespace Go.Proofs.Ytblmnncmkibhnaa
open Go Go.J

theorem BI.wf {p : List Int} {L : Nat} {l : List Nat} {rk : List Int} (h : BI p L l rk) (hn : p.length ≤ 2000) : ∀ x ∈ rk, intR.wf x := by
  intro x hx
  obtain ⟨i, hi, rfl⟩ := List.mem_iff_getElem.1 hx
  have hb := h.rank.pos i (by rw [← h.len.2]; exact hi)
  simp only [List.getD_eq_getElem?_getD, List.getElem?_eq_getElem hi, Option.getD_some] at hb
  show i64ok rk[i]
  unfold i64ok; omega
theorem BI.mem {p : List Int} {L : Nat} {l : List Nat} {rk : List Int} (h : BI p L l rk) {i : Nat} (hi : i ∈ l) : i < p.length := List.mem_range.1 (h.perm.mem_iff.1 hi)
theorem tied_cl {p : List Int} {L : Nat} {l : List Nat} {rk : List Int} (h : BI p L l rk) (bo br : Nat) (vo vr : Value) :
    ∀ x ∈ ints l, FnV Try.prog 41 ([iv x] ++ [Value.pointer (some ⟨bo, 0, none⟩), Value.pointer (some ⟨br, 0, none⟩)]).toArray [allD [cel bo vo, cel br vr, sl intR vo (ints l), sl intR vr rk]] (.bool (tiedB l rk x)) := by
  intro x hx
  obtain ⟨i, hi, rfl⟩ := List.mem_map.1 hx
  have hi' := h.mem hi
  have hb := h.rank.pos i hi'
  exact (build2_specC l rk bo br vo vr i (by rw [h.len.2]; exact hi') hb.1 (by rw [h.len.1]; exact hb.2)).all
theorem BI.init {p : List Int} {l : List Nat} {rk : List Int} (hp : l.Perm (List.range p.length)) (hs : Sorted (fun i j => sgn (p.getD i 0) (p.getD j 0)) l) (hr : Ranks (fun i j => sgn (p.getD i 0) (p.getD j 0)) l rk) : BI p 1 l rk :=
  ⟨by omega, by omega, hp, _, cf1_key, hs, hr⟩

theorem build_spec (v0 : Value) (p : List Int) (hn : p.length ≤ 2000) : FnH Try.prog 26 #[v0] ([sl intR v0 p].map dat) (fun u H' => ∃ l : List Nat, IsSuf p l ∧ u.oneCell' = true ∧ H' = [row u 3 1 p.length (rows intR (ints l))]) := by
  refine FnH.body (args := [v0]) 39 Try.func26 rfl Try.ntmps26 rfl (fun c => ?_)
  refine St.seq ?_
  refine St.cast (H' := [dat (sl intR v0 p)]) rfl ?_
  refine St.wf v0 (fun hwf hlen => ?_)
  refine St.shape v0 (fun ad cp hsh _ => ?_)
  have hv0 : v0.oneCell' = true := by rw [hsh]; rfl
  refine St.rg ?_
  refine St.box1 (Opd.mk rfl) hv0 rfl (fun b1 => ?_)
  refine St.ev _ (Ev.assign (Opd.mk rfl)) rfl ?_
  refine St.nil ?_
  refine St.then_normal ?_
  refine St.seq ?_
  refine St.rg ?_
  refine St.ev _ (Ev.ldb (Opd.mk rfl) Try.underlying22 trivial (by rfl)) rfl ?_
  refine St.ev _ (Ev.lensl (Opd.mk rfl) Try.underlying22) rfl ?_
  refine St.alloc zc3 rfl (fun b3 => ?_)
  refine St.store1 (Opd.mk rfl) (Opd.mk rfl) sz3 rfl (by rfl) ?_
  refine St.nil ?_
  refine St.then_normal ?_
  refine St.seq ?_
  refine St.rg ?_
  refine St.ev _ (Ev.ldb (Opd.mk rfl) Try.underlying3 trivial (by rfl)) rfl ?_
  refine St.makeSl (m := p.length) (Opd.mk rfl) (Opd.mk rfl) Try.underlying22 sz3 zv3 by3 rfl rfl (by omega) rfl rfl (fun b13 => ?_)
  refine St.alloc zc22 rfl (fun b4 => ?_)
  refine St.store1 (Opd.mk rfl) (Opd.mk rfl) sz22 rfl (by rfl) ?_
  refine St.nil ?_
  refine St.then_normal ?_
  refine St.seq ?_
  refine St.seq ?_
  refine St.rg ?_
  refine St.ev _ (Ev.ldb (Opd.mk rfl) Try.underlying22 trivial (by rfl)) rfl ?_
  refine St.ev _ (Ev.lenrow (Opd.mk rfl) Try.underlying22) rfl ?_
  refine St.ev _ (Ev.move (Opd.mk rfl)) rfl ?_
  refine St.nil ?_
  refine St.then_normal ?_
  refine St.block ?_
  refine St.rowEq (.slice (some ⟨b13, 0, none⟩) p.length p.length) (show _ = rows intR (iotaTo p.length 0) by rw [iotaTo_zero]; exact (rows_replicate rfl _).symm) ?_
  refine St.loopH (ι := Nat) (fun k T => (16, iv k) :: T) (fun k => [row (.slice (some ⟨b13, 0, none⟩) p.length p.length) 3 1 p.length (rows intR (iotaTo p.length k)), blk b4 (.cells [(.slice (some ⟨b13, 0, none⟩) p.length p.length)].toArray 22 (0, 0)), blk b3 (.cells [iv p.length].toArray 3 (0, 0)), blk b1 (.cells [v0].toArray 22 (0, 0)), dat (sl intR v0 p)]) (fun k => k ≤ p.length) (fun k => p.length - k) 0 (Keep.cons 1 rfl (Keep.cons 2 rfl (Keep.cons 3 rfl (Keep.cons 4 rfl (Keep.cons 15 rfl Keep.nil))))) (Nat.zero_le _) (by repeat (first | exact Sub.nil | refine Sub.cons (by first | rfl | exact congrArg (fun z => some (iv z)) (by first | omega | (dsimp only; omega)) | exact congrArg (fun z => some (Value.bool z)) (by first | assumption | exact Eq.symm (by assumption))) ?_)) (fun _ hw => hw.sub) ?_
  intro k hphi
  refine St.seq ?_
  refine St.rg ?_
  refine St.ev _ (Ev.lss (Opd.mk rfl) (Opd.mk rfl)) rfl ?_
  refine St.nil ?_
  refine St.then_normal ?_
  refine St.seq ?_
  refine St.cond _ rfl (fun h17 => ?_) (fun h17 => ?_)
  · skip
    try simp only [Bool.and_true, Bool.true_and, decide_eq_true_eq, decide_eq_false_iff_not, Bool.and_eq_true, Bool.or_eq_true, Bool.and_eq_false_iff, Bool.or_eq_false_iff, Bool.not_eq_true', Bool.not_eq_false', beq_iff_eq, beq_eq_false_iff_ne, Int.not_lt, Int.not_le] at h17
    refine St.skip ?_
    refine St.then_normal ?_
    refine St.seq ?_
    refine St.block ?_
    refine St.seq ?_
    refine St.rg ?_
    refine St.ev _ (Ev.move (Opd.mk rfl)) rfl ?_
    refine St.ev _ (Ev.assign (Opd.mk rfl)) rfl ?_
    refine St.nil ?_
    refine St.then_normal ?_
    refine St.rg ?_
    refine St.ev _ (Ev.ldb (Opd.mk rfl) Try.underlying22 trivial (by rfl)) rfl ?_
    refine St.ev _ (Ev.move (Opd.mk rfl)) rfl ?_
    refine St.ev _ (Ev.move (Opd.mk rfl)) rfl ?_
    refine St.ev _ (Ev.idxaddrrow (k := k) (Opd.mk rfl) (Opd.mk rfl) Try.underlying22 sz3 (by omega) (by omega)) rfl ?_
    refine St.storerow (Opd.mk rfl) (Opd.mk rfl) sz3 rfl (by omega) (by decide) ?_
    refine St.rowEq (.slice (some ⟨b13, 0, none⟩) p.length p.length) ((rowI_set _ _ _).trans (congrArg (rows intR) (iotaTo_set (by omega)))) ?_
    refine St.nil ?_
    refine St.in_normal ?_
    refine St.then_normal ?_
    refine St.rg ?_
    refine St.ev _ (Ev.add (Opd.mk rfl) (Opd.mk rfl) (by omega)) rfl ?_
    refine St.ev _ (Ev.move (Opd.mk rfl)) rfl ?_
    refine St.nil ?_
    refine St.then_normal ?_
    refine St.againH (k + 1) (by omega) (by first | omega | (dsimp only; omega)) (by repeat (first | exact Sub.nil | refine Sub.cons (by first | rfl | exact congrArg (fun z => some (iv z)) (by first | omega | (dsimp only; omega)) | exact congrArg (fun z => some (Value.bool z)) (by first | assumption | exact Eq.symm (by assumption))) ?_)) (fun _ hw => hw.sub)
  · skip
    try simp only [Bool.and_true, Bool.true_and, decide_eq_true_eq, decide_eq_false_iff_not, Bool.and_eq_true, Bool.or_eq_true, Bool.and_eq_false_iff, Bool.or_eq_false_iff, Bool.not_eq_true', Bool.not_eq_false', beq_iff_eq, beq_eq_false_iff_ne, Int.not_lt, Int.not_le] at h17
    refine St.exit ?_
    refine St.then_exit ?_
    refine St.then_exit ?_
    refine St.in_hit ?_
    refine St.then_normal ?_
    refine St.seq ?_
    refine St.rowEq (.slice (some ⟨b13, 0, none⟩) p.length p.length) (congrArg (rows intR) (iotaTo_end (show p.length ≤ k by omega))) ?_
    refine St.rg ?_
    refine St.ev _ (Ev.ldb (Opd.mk rfl) Try.underlying22 trivial (by rfl)) rfl ?_
    refine St.ev _ (Ev.func (Opds.cons (Opd.mk rfl) Opds.nil)) rfl ?_
    refine St.callO  (ds := [allD [cel b1 v0, sl intR v0 p]]) (L := [row (.slice (some ⟨b13, 0, none⟩) p.length p.length) 3 1 p.length (rows intR (ints (List.range p.length)))]) (R := _) (ranked_spec p.length hn (pre p 1) _ cf1_key 39 cb39 [Value.pointer (some ⟨b1, 0, none⟩)] (allD [cel b1 v0, sl intR v0 p]) (fun a b ha hb => (build1_specC p b1 v0 a b ha hb).all) (.slice (some ⟨b13, 0, none⟩) p.length p.length) (List.range p.length) (List.Perm.refl _)) cb38 (Opds.cons (Opd.mk rfl) (Opds.cons (Opd.mk rfl) Opds.nil)) (LentO.allD (LentO.blk (LentO.dat LentO.nil))) (Solid.row Solid.nil) (fun u H' h => by obtain ⟨_, _, _, _, _, _, rfl⟩ := h; exact Solid.row (Solid.row Solid.nil)) rfl ?_
    rintro v26 _ ⟨l0, rk0, hp0, hs0, hr0, h1, rfl⟩
    refine St.appr ?_
    refine St.alloc zc22 rfl (fun b6 => ?_)
    refine St.store1 (Opd.mk rfl) (Opd.mk rfl) sz22 h1 (by rfl) ?_
    refine St.nil ?_
    refine St.then_normal ?_
    refine St.seq ?_
    refine St.rg ?_
    refine St.ev _ (Ev.func (Opds.cons (Opd.mk rfl) (Opds.cons (Opd.mk rfl) Opds.nil))) rfl ?_
    refine St.ev _ (Ev.assign (Opd.mk rfl)) rfl ?_
    refine St.nil ?_
    refine St.then_normal ?_
    refine St.seq ?_
    refine St.seq ?_
    refine St.rg ?_
    refine St.alloc zc3 rfl (fun b8 => ?_)
    refine St.store1 (Opd.mk rfl) (Opd.mk rfl) sz3 rfl (by rfl) ?_
    refine St.nil ?_
    refine St.then_normal ?_
    refine St.block ?_
    refine St.loopH2 (ι := Nat × List Nat × List Int) (κ := Value × Nat) (fun x z T => (8, Value.pointer (some ⟨z.2, 0, none⟩)) :: T) (fun x z => [blk b6 (.cells [z.1].toArray 22 (0, 0)), row z.1 3 1 p.length (rows intR x.2.2), blk z.2 (.cells [iv x.1].toArray 3 (0, 0)), row (.slice (some ⟨b13, 0, none⟩) p.length p.length) 3 1 p.length (rows intR (ints x.2.1)), blk b4 (.cells [(.slice (some ⟨b13, 0, none⟩) p.length p.length)].toArray 22 (0, 0)), blk b3 (.cells [iv p.length].toArray 3 (0, 0)), blk b1 (.cells [v0].toArray 22 (0, 0)), dat (sl intR v0 p)]) (fun x z => BI p x.1 x.2.1 x.2.2 ∧ z.1.oneCell' = true) (fun x z => 2 * p.length - x.1) (1, l0, rk0) (v26, b8) (Keep.cons 2 rfl (Keep.cons 3 rfl (Keep.cons 4 rfl (Keep.cons 6 rfl (Keep.cons 7 rfl Keep.nil))))) ⟨BI.init hp0 hs0 hr0, h1⟩ (by repeat (first | exact Sub.nil | refine Sub.cons (by first | rfl | exact congrArg (fun z => some (iv z)) (by first | omega | (dsimp only; omega)) | exact congrArg (fun z => some (Value.bool z)) (by first | assumption | exact Eq.symm (by assumption))) ?_)) (fun _ hw => hw.sub) ?_
    intro x z hphi
    obtain ⟨hbi, hz1⟩ := hphi
    have hln := hbi.len
    have htop := hbi.top
    have hpos := hbi.pos
    refine St.seq ?_
    refine St.seq ?_
    refine St.rg ?_
    refine St.ev _ (Ev.ldb (Opd.mk rfl) Try.underlying22 trivial (by rfl)) rfl ?_
    refine St.ev _ (Ev.move (Opd.mk rfl)) rfl ?_
    refine St.ev _ (Ev.callL (ContainsFunc_spec (.slice (some ⟨b13, 0, none⟩) p.length p.length) (ints x.2.1) 41 cb41 [Value.pointer (some ⟨b4, 0, none⟩), Value.pointer (some ⟨b6, 0, none⟩)] (allD [cel b4 (.slice (some ⟨b13, 0, none⟩) p.length p.length), cel b6 z.1, sl intR (.slice (some ⟨b13, 0, none⟩) p.length p.length) (ints x.2.1), sl intR z.1 x.2.2]) (tiedB x.2.1 x.2.2) (tied_cl hbi b4 b6 (.slice (some ⟨b13, 0, none⟩) p.length p.length) z.1)) cb42 (Opds.cons (Opd.mk rfl) (Opds.cons (Opd.mk rfl) Opds.nil)) (Lent.row (Lent.allD (Lent.blk (Lent.blk (Lent.row (Lent.row Lent.nil rfl rfl hln.2.symm (hbi.wf hn)) rfl rfl (by rw [ints_length, hln.1]) (wf_ints hbi.perm (by omega)))))) rfl rfl (by rw [ints_length, hln.1]) (wf_ints hbi.perm (by omega)))) rfl ?_
    refine St.nil ?_
    refine St.then_normal ?_
    refine St.cond _ rfl (fun h30 => ?_) (fun h30 => ?_)
    · skip
      skip
      have hL := hbi.more h30
      refine St.skip ?_
      refine St.then_normal ?_
      refine St.seq ?_
      refine St.block ?_
      refine St.seq ?_
      refine St.rg ?_
      refine St.ev _ (Ev.func (Opds.cons (Opd.mk rfl) (Opds.cons (Opd.mk rfl) (Opds.cons (Opd.mk rfl) Opds.nil)))) rfl ?_
      refine St.alloc zc55 rfl (fun b9 => ?_)
      refine St.store1 (Opd.mk rfl) (Opd.mk rfl) sz55 rfl (by rfl) ?_
      refine St.nil ?_
      refine St.then_normal ?_
      refine St.rg ?_
      refine St.ev _ (Ev.ldb (Opd.mk rfl) Try.underlying22 trivial (by rfl)) rfl ?_
      refine St.ev _ (Ev.func (Opds.cons (Opd.mk rfl) (Opds.cons (Opd.mk rfl) Opds.nil))) rfl ?_
      refine St.callO  (ds := [allD [cel b6 z.1, cel b9 (.func (.func 43) #[] #[Value.pointer (some ⟨z.2, 0, none⟩), Value.pointer (some ⟨b3, 0, none⟩), Value.pointer (some ⟨b6, 0, none⟩)]), cel z.2 (iv x.1), cel b3 (iv p.length), sl intR z.1 x.2.2]]) (L := [row (.slice (some ⟨b13, 0, none⟩) p.length p.length) 3 1 p.length (rows intR (ints x.2.1))]) (R := _) (ranked_spec p.length hn (pre p (x.1 + x.1)) _ (cfR_key hbi.pos hbi.rank) 44 cb44 [Value.pointer (some ⟨b6, 0, none⟩), Value.pointer (some ⟨b9, 0, none⟩)] (allD [cel b6 z.1, cel b9 (.func (.func 43) #[] #[Value.pointer (some ⟨z.2, 0, none⟩), Value.pointer (some ⟨b3, 0, none⟩), Value.pointer (some ⟨b6, 0, none⟩)]), cel z.2 (iv x.1), cel b3 (iv p.length), sl intR z.1 x.2.2]) (fun a b ha hb => (build4_specC p x.1 x.2.2 hln.2 ⟨hn, htop⟩ z.2 b3 b6 b9 z.1 a b ha hb).all) (.slice (some ⟨b13, 0, none⟩) p.length p.length) x.2.1 hbi.perm) cb38 (Opds.cons (Opd.mk rfl) (Opds.cons (Opd.mk rfl) Opds.nil)) (LentO.allD (LentO.blk (LentO.blk (LentO.blk (LentO.blk (LentO.row LentO.nil rfl rfl hln.2.symm (hbi.wf hn))))))) (Solid.row Solid.nil) (fun u H' h => by obtain ⟨_, _, _, _, _, _, rfl⟩ := h; exact Solid.row (Solid.row Solid.nil)) rfl ?_
      rintro v36 _ ⟨l2, rk2, hp2, hs2, hr2, h2, rfl⟩
      refine St.appr ?_
      refine St.store1 (Opd.mk rfl) (Opd.mk rfl) sz22 h2 (by rfl) ?_
      refine St.nil ?_
      refine St.in_normal ?_
      refine St.then_normal ?_
      refine St.seq ?_
      refine St.seq ?_
      refine St.rg ?_
      refine St.ev _ (Ev.ldb (Opd.mk rfl) Try.underlying3 trivial (by rfl)) rfl ?_
      refine St.nil ?_
      refine St.then_normal ?_
      refine St.rg ?_
      refine St.alloc zc3 rfl (fun b8 => ?_)
      refine St.store1 (Opd.mk rfl) (Opd.mk rfl) sz3 rfl (by rfl) ?_
      refine St.nil ?_
      refine St.then_normal ?_
      refine St.rg ?_
      refine St.ev _ (Ev.ldb (Opd.mk rfl) Try.underlying3 trivial (by rfl)) rfl ?_
      refine St.ev _ (Ev.mul (Opd.mk rfl) (Opd.mk rfl) (by omega)) rfl ?_
      refine St.store1 (Opd.mk rfl) (Opd.mk rfl) sz3 rfl (by rfl) ?_
      refine St.nil ?_
      refine St.then_normal ?_
      refine St.blkEq b8 [iv ((x.1 * 2 : Nat) : Int)] (by rw [Int.natCast_mul]; rfl) ?_
      refine St.againH2 (x.1 * 2, l2, rk2) (v36, b8) ⟨hbi.next hn hL hp2 hs2 hr2, h2⟩ (by show 2 * p.length - x.1 * 2 < 2 * p.length - x.1; omega) (by repeat (first | exact Sub.nil | refine Sub.cons (by first | rfl | exact congrArg (fun z => some (iv z)) (by first | omega | (dsimp only; omega)) | exact congrArg (fun z => some (Value.bool z)) (by first | assumption | exact Eq.symm (by assumption))) ?_)) (fun _ hw => hw.sub)
    · skip
      skip
      refine St.exit ?_
      refine St.then_exit ?_
      refine St.then_exit ?_
      refine St.in_hit ?_
      refine St.then_normal ?_
      refine St.seq ?_
      refine St.rg ?_
      refine St.ev _ (Ev.ldb (Opd.mk rfl) Try.underlying22 trivial (by rfl)) rfl ?_
      refine St.ev _ (Ev.assign (Opd.mk rfl)) rfl ?_
      refine St.nil ?_
      refine St.then_normal ?_
      refine St.rett ?_
      refine St.rets [_] [row (.slice (some ⟨b13, 0, none⟩) p.length p.length) 3 1 p.length (rows intR (ints x.2.1))] Try.results26 ⟨rfl, trivial⟩ ?_ (fun _ hw => hw.sub)
      exact ⟨x.2.1, hbi.done h30, rfl, rfl⟩

end Go.Proofs.Ytblmnncmkibhnaa
