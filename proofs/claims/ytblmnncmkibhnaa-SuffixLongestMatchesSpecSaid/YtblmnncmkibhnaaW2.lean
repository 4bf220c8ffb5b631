/-
  The walks of the ranks and of the sort of suffixes by beginnings that are twice as long.
  Conditions: a list of at most 2000 numbers.
-/
import Derived.Test.YtblmnncmkibhnaaW1
import Derived.Test.YtblmnncmkibhnaaLay
set_option linter.unusedSimpArgs false
set_option linter.unusedVariables false
namespace Go.Proofs.Ytblmnncmkibhnaa
open Go Go.J

theorem sort49_spec {n : Nat} {key : Nat → List Int} {cf : Nat → Nat → Int} (hK : KeyCmp n key cf) (g : Nat) (hcb : Callable Try.prog g) (caps : List Value) (D : Dat)
    (hcl : ∀ a b, a < n → b < n → FnV Try.prog g ([iv a, iv b] ++ caps).toArray [D] (iv (cf a b))) (v : Value) (l0 : List Nat) (hp0 : l0.Perm (List.range n)) (hn : n ≤ 2000) :
    FnH Try.prog 49 #[v, .func (.func g) #[] caps.toArray] ([D].map dat ++ [row v 3 1 n (rows intR (ints l0))]) (fun u H' => u = .tuple #[] ∧ ∃ l : List Nat, l.Perm (List.range n) ∧ Sorted cf l ∧ H' = [row v 3 1 n (rows intR (ints l))]) :=
  sortKeys_spec Try.laysSlF6_f49 hK g hcb caps D hcl v 3 l0 hp0 (by omega)
theorem build1_specC (p : List Int) (bp : Nat) (vp : Value) (a b : Nat) (ha : a < p.length) (hb : b < p.length) : FnV Try.prog 39 ([iv a, iv b] ++ [Value.pointer (some ⟨bp, 0, none⟩)]).toArray [cel bp vp, sl intR vp p] (iv (sgn (p.getD a 0) (p.getD b 0))) := build1_spec p bp vp a b ha hb
theorem build2_specC (l : List Nat) (rk : List Int) (bo br : Nat) (vo vr : Value) (i : Nat) (hi : i < rk.length) (h0 : 0 ≤ rk.getD i 0) (h1 : rk.getD i 0 < l.length) :
    FnV Try.prog 41 ([iv i] ++ [Value.pointer (some ⟨bo, 0, none⟩), Value.pointer (some ⟨br, 0, none⟩)]).toArray [cel bo vo, cel br vr, sl intR vo (ints l), sl intR vr rk] (.bool (!decide (l.getD (rk.getD i 0).toNat 0 = i))) := build2_spec l rk bo br vo vr i hi h0 h1
theorem build4_specC (p : List Int) (L : Nat) (rk : List Int) (hrk : rk.length = p.length) (hL : p.length ≤ 2000 ∧ L ≤ 4000) (bs bn br b2 : Nat) (vr : Value) (a b : Nat) (ha : a < p.length) (hb : b < p.length) :
    FnV Try.prog 44 ([iv a, iv b] ++ [Value.pointer (some ⟨br, 0, none⟩), Value.pointer (some ⟨b2, 0, none⟩)]).toArray [cel br vr, cel b2 (.func (.func 43) #[] #[Value.pointer (some ⟨bs, 0, none⟩), Value.pointer (some ⟨bn, 0, none⟩), Value.pointer (some ⟨br, 0, none⟩)]), cel bs (iv L), cel bn (iv p.length), sl intR vr rk] (iv (cfR p L (fun i => rk.getD i 0) a b)) :=
  build4_spec p L rk hrk hL bs bn br b2 vr a b ha hb
/-- where the sort stands: beginnings of length L are in order, and ranked -/
structure BI (p : List Int) (L : Nat) (l : List Nat) (rk : List Int) : Prop where
  pos : 0 < L
  top : L ≤ 4000
  perm : l.Perm (List.range p.length)
  srt : ∃ cf, KeyCmp p.length (pre p L) cf ∧ Sorted cf l ∧ Ranks cf l rk
theorem BI.len {p : List Int} {L : Nat} {l : List Nat} {rk : List Int} (h : BI p L l rk) : l.length = p.length ∧ rk.length = p.length := by
  obtain ⟨cf, _, _, h3⟩ := h.srt
  have := h.perm.length_eq
  rw [List.length_range] at this
  exact ⟨this, by rw [h3.1, this]⟩
theorem BI.rank {p : List Int} {L : Nat} {l : List Nat} {rk : List Int} (h : BI p L l rk) : IsRank p L (fun i => rk.getD i 0) := by
  obtain ⟨cf, h1, h2, h3⟩ := h.srt
  exact ranks_is h1 h.perm h2 h3
def tiedB (l : List Nat) (rk : List Int) (z : Int) : Bool := !decide (l.getD (rk.getD z.toNat 0).toNat 0 = z.toNat)
theorem BI.done {p : List Int} {L : Nat} {l : List Nat} {rk : List Int} (h : BI p L l rk) (ht : (ints l).any (tiedB l rk) = false) : IsSuf p l := by
  obtain ⟨cf, h1, h2, h3⟩ := h.srt
  refine suf_done h1 h.perm h2 h3 fun i hi => ?_
  have := List.any_eq_false.1 ht (i : Int) (List.mem_map_of_mem hi)
  simpa [tiedB] using this
theorem BI.more {p : List Int} {L : Nat} {l : List Nat} {rk : List Int} (h : BI p L l rk) (ht : (ints l).any (tiedB l rk) = true) : L < p.length := by
  obtain ⟨cf, h1, h2, h3⟩ := h.srt
  obtain ⟨z, hz, hq⟩ := List.any_eq_true.1 ht
  obtain ⟨i, hi, rfl⟩ := List.mem_map.1 hz
  exact suf_more h1 h.perm h2 h3 hi (by simpa [tiedB] using hq)
theorem BI.next {p : List Int} {L : Nat} {l l' : List Nat} {rk rk' : List Int} (h : BI p L l rk) (hn : p.length ≤ 2000) (hL : L < p.length) (hp : l'.Perm (List.range p.length)) (hs : Sorted (cfR p L (fun i => rk.getD i 0)) l') (hr : Ranks (cfR p L (fun i => rk.getD i 0)) l' rk') : BI p (L * 2) l' rk' :=
  ⟨by have := h.pos; omega, by omega, hp, _, by rw [Nat.mul_two]; exact cfR_key h.pos h.rank, hs, hr⟩

theorem ranked_spec (n : Nat) (hn : n ≤ 2000) (key : Nat → List Int) (cf : Nat → Nat → Int) (hK : KeyCmp n key cf) (g : FuncId) (hcb : Callable Try.prog g) (caps : List Value) (D : Dat) (hcl : ∀ a b, a < n → b < n → FnV Try.prog g ([iv a, iv b] ++ caps).toArray [D] (iv (cf a b))) (vo : Value) (l0 : List Nat) (hp0 : l0.Perm (List.range n)) :
    FnH Try.prog 38 #[vo, .func (.func g) #[] caps.toArray] ([D].map dat ++ [row vo 3 1 n (rows intR (ints l0))]) (fun u H' => ∃ (l : List Nat) (rk : List Int), l.Perm (List.range n) ∧ Sorted cf l ∧ Ranks cf l rk ∧ u.oneCell' = true ∧ H' = [row vo 3 1 n (rows intR (ints l)), row u 3 1 n (rows intR rk)]) := by
  refine FnH.body (args := [vo, .func (.func g) #[] caps.toArray]) 51 Try.func38 rfl Try.ntmps38 rfl (fun c => ?_)
  refine St.seq ?_
  refine St.cast (H' := [dat D, row vo 3 1 n (rows intR (ints l0))]) rfl ?_
  refine St.rg ?_
  refine St.ev _ (Ev.assign (Opd.mk rfl)) rfl ?_
  refine St.nil ?_
  refine St.then_normal ?_
  refine St.seq ?_
  refine St.rg ?_
  refine St.ev _ (Ev.move (Opd.mk rfl)) rfl ?_
  refine St.ev _ (Ev.move (Opd.mk rfl)) rfl ?_
  refine St.callO  (ds := [D]) (L := [row vo 3 1 n (rows intR (ints l0))]) (R := _) (sort49_spec hK g hcb caps D hcl vo l0 hp0 hn) cb49 (Opds.cons (Opd.mk rfl) (Opds.cons (Opd.mk rfl) Opds.nil)) (LentO.alld) (Solid.row Solid.nil) (fun u H' h => by obtain ⟨_, _, _, _, rfl⟩ := h; exact Solid.row Solid.nil) rfl ?_
  rintro v10 _ ⟨_, l, hp, hs, rfl⟩
  refine St.appr ?_
  have hll : l.length = n := by rw [hp.length_eq, List.length_range]
  refine St.nil ?_
  refine St.then_normal ?_
  refine St.seq ?_
  refine St.rg ?_
  refine St.ev _ (Ev.move (Opd.mk rfl)) rfl ?_
  refine St.ev _ (Ev.lenrow (Opd.mk rfl) Try.underlying22) rfl ?_
  refine St.makeSl (m := n) (Opd.mk rfl) (Opd.mk rfl) Try.underlying22 sz3 zv3 by3 rfl rfl (by omega) rfl rfl (fun b13 => ?_)
  refine St.ev _ (Ev.assign (Opd.mk rfl)) rfl ?_
  refine St.nil ?_
  refine St.then_normal ?_
  refine St.seq ?_
  refine St.seq ?_
  refine St.rg ?_
  refine St.ev _ (Ev.move (Opd.mk rfl)) rfl ?_
  refine St.ev _ (Ev.lenrow (Opd.mk rfl) Try.underlying22) rfl ?_
  refine St.ev _ (Ev.move (Opd.mk rfl)) rfl ?_
  refine St.nil ?_
  refine St.then_normal ?_
  refine St.block ?_
  refine St.rowEq (.slice (some ⟨b13, 0, none⟩) n n) (show _ = rows intR (List.replicate n 0) from (rows_replicate rfl _).symm) ?_
  refine St.loopH (ι := Nat × List Int) (fun x T => (16, iv x.1) :: T) (fun x => [row vo 3 1 n (rows intR (ints l)), row (.slice (some ⟨b13, 0, none⟩) n n) 3 1 n (rows intR x.2), dat D]) (fun x => x.1 ≤ n ∧ x.2.length = n ∧ ∀ j, j < x.1 → x.2.getD (l.getD j 0) 0 = rkAt cf l j) (fun x => n - x.1) (0, List.replicate n 0) (Keep.cons 0 rfl (Keep.cons 1 rfl (Keep.cons 4 rfl (Keep.cons 5 rfl (Keep.cons 14 rfl (Keep.cons 15 rfl Keep.nil)))))) ⟨Nat.zero_le _, by simp, fun j hj => absurd hj (Nat.not_lt_zero j)⟩ (by repeat (first | exact Sub.nil | refine Sub.cons (by first | rfl | exact congrArg (fun z => some (iv z)) (by first | omega | (dsimp only; omega)) | exact congrArg (fun z => some (Value.bool z)) (by first | assumption | exact Eq.symm (by assumption))) ?_)) (fun _ hw => hw.sub) ?_
  intro x hphi
  obtain ⟨hk, hrl, hinv⟩ := hphi
  refine St.seq ?_
  refine St.rg ?_
  refine St.ev _ (Ev.lss (Opd.mk rfl) (Opd.mk rfl)) rfl ?_
  refine St.nil ?_
  refine St.then_normal ?_
  refine St.seq ?_
  refine St.cond _ rfl (fun h17 => ?_) (fun h17 => ?_)
  · skip
    try simp only [Bool.and_true, Bool.true_and, decide_eq_true_eq, decide_eq_false_iff_not, Bool.and_eq_true, Bool.or_eq_true, Bool.and_eq_false_iff, Bool.or_eq_false_iff, Bool.not_eq_true', Bool.not_eq_false', beq_iff_eq, beq_eq_false_iff_ne, Int.not_lt, Int.not_le] at h17
    have hk1 : x.1 < n := by omega
    have hb := perm_lt hp hk1
    refine St.skip ?_
    refine St.then_normal ?_
    refine St.seq ?_
    refine St.block ?_
    refine St.seq ?_
    refine St.rg ?_
    refine St.ev _ (Ev.move (Opd.mk rfl)) rfl ?_
    refine St.ev _ (Ev.idxaddrrow (k := x.1) (Opd.mk rfl) (Opd.mk rfl) Try.underlying22 sz3 (by omega) (by omega)) rfl ?_
    refine St.ev _ (Ev.ldrow (Opd.mk rfl) Try.underlying3 trivial (by omega) (rowI2 (by omega))) rfl ?_
    refine St.ev _ (Ev.assign (Opd.mk rfl)) rfl ?_
    refine St.ev _ (Ev.assign (Opd.mk rfl)) rfl ?_
    refine St.nil ?_
    refine St.then_normal ?_
    refine St.seq ?_
    refine St.rg ?_
    refine St.ev _ (Ev.move (Opd.mk rfl)) rfl ?_
    refine St.ev _ (Ev.move (Opd.mk rfl)) rfl ?_
    refine St.ev _ (Ev.move (Opd.mk rfl)) rfl ?_
    refine St.ev _ (Ev.idxaddrrow (k := (l.getD x.1 0)) (Opd.mk rfl) (Opd.mk rfl) Try.underlying22 sz3 (by omega) hb) rfl ?_
    refine St.storerow (Opd.mk rfl) (Opd.mk rfl) sz3 rfl hb (by decide) ?_
    refine St.rowEq (.slice (some ⟨b13, 0, none⟩) n n) (rowI_set _ _ _) ?_
    refine St.nil ?_
    refine St.then_normal ?_
    refine St.seq ?_
    refine St.rg ?_
    refine St.ev _ (Ev.move (Opd.mk rfl)) rfl ?_
    refine St.ev _ (Ev.gtr (Opd.mk rfl) (Opd.mk rfl)) rfl ?_
    refine St.ev _ (Ev.move (Opd.mk rfl)) rfl ?_
    refine St.gt _ rfl rfl (fun hg => Ev.move (Opd.mk rfl)) rfl ?_
    refine St.gt _ rfl rfl (fun hg => Ev.move (Opd.mk rfl)) rfl ?_
    refine St.gt _ rfl rfl (fun hg => Ev.move (Opd.mk rfl)) rfl ?_
    refine St.gt _ rfl rfl (fun hg => Ev.sub (Opd.gv rfl hg) (Opd.mk rfl) (by omega)) rfl ?_
    refine St.gt _ rfl rfl (fun hg => Ev.idxaddrrow (k := (x.1 - 1)) (Opd.gv rfl hg) (Opd.gv rfl hg) Try.underlying22 sz3 (by first | omega | (simp only [Bool.and_true, Bool.true_and, decide_eq_true_eq, decide_eq_false_iff_not, Bool.and_eq_true, Bool.or_eq_true, Bool.and_eq_false_iff, Bool.or_eq_false_iff, Bool.not_eq_true', Bool.not_eq_false', beq_iff_eq, beq_eq_false_iff_ne, Int.not_lt, Int.not_le] at hg; omega)) (by omega)) rfl ?_
    refine St.gt _ rfl rfl (fun hg => Ev.ldrow (Opd.gv rfl hg) Try.underlying3 trivial (by omega) (rowI2 (by omega))) rfl ?_
    refine St.gt _ rfl rfl (fun hg => Ev.move (Opd.mk rfl)) rfl ?_
    refine St.gt _ rfl rfl (fun hg => Ev.callc (hcl (l.getD (x.1 - 1) 0) (l.getD x.1 0) (perm_lt hp (by omega)) hb) hcb (Opd.gv rfl hg) (Opds.cons (Opd.gv rfl hg) (Opds.cons (Opd.gv rfl hg) Opds.nil))) rfl ?_
    refine St.gt _ rfl rfl (fun hg => Ev.eql (Opd.gv rfl hg) (Opd.mk rfl)) rfl ?_
    refine St.ev _ (Ev.and (Opd.mk rfl) (fun hp => Opd.gv rfl hp)) rfl ?_
    refine St.nil ?_
    refine St.then_normal ?_
    refine St.cond _ rfl (fun h37 => ?_) (fun h37 => ?_)
    · skip
      try simp only [Bool.and_true, Bool.true_and, decide_eq_true_eq, decide_eq_false_iff_not, Bool.and_eq_true, Bool.or_eq_true, Bool.and_eq_false_iff, Bool.or_eq_false_iff, Bool.not_eq_true', Bool.not_eq_false', beq_iff_eq, beq_eq_false_iff_ne, Int.not_lt, Int.not_le] at h37
      have hb2 := perm_lt hp (show x.1 - 1 < n by omega)
      have hc : 0 < x.1 ∧ cf (l.getD (x.1 - 1) 0) (l.getD x.1 0) = 0 := ⟨by omega, h37.2⟩
      refine St.rg ?_
      refine St.ev _ (Ev.move (Opd.mk rfl)) rfl ?_
      refine St.ev _ (Ev.move (Opd.mk rfl)) rfl ?_
      refine St.ev _ (Ev.move (Opd.mk rfl)) rfl ?_
      refine St.ev _ (Ev.move (Opd.mk rfl)) rfl ?_
      refine St.ev _ (Ev.move (Opd.mk rfl)) rfl ?_
      refine St.ev _ (Ev.sub (Opd.mk rfl) (Opd.mk rfl) (by omega)) rfl ?_
      refine St.ev _ (Ev.idxaddrrow (k := (x.1 - 1)) (Opd.mk rfl) (Opd.mk rfl) Try.underlying22 sz3 (by omega) (by omega)) rfl ?_
      refine St.ev _ (Ev.ldrow (Opd.mk rfl) Try.underlying3 trivial (by omega) (rowI2 (by omega))) rfl ?_
      refine St.ev _ (Ev.idxaddrrow (k := (l.getD (x.1 - 1) 0)) (Opd.mk rfl) (Opd.mk rfl) Try.underlying22 sz3 (by omega) hb2) rfl ?_
      refine St.ev _ (Ev.ldrow (Opd.mk rfl) Try.underlying3 trivial hb2 (rowI (by rw [List.length_set, hrl]; exact hb2))) rfl ?_
      refine St.ev _ (Ev.idxaddrrow (k := (l.getD x.1 0)) (Opd.mk rfl) (Opd.mk rfl) Try.underlying22 sz3 (by omega) hb) rfl ?_
      refine St.storerow (Opd.mk rfl) (Opd.mk rfl) sz3 rfl hb (by decide) ?_
      refine St.rowEq (.slice (some ⟨b13, 0, none⟩) n n) (rowI_set _ _ _) ?_
      refine St.nil ?_
      refine St.in_normal ?_
      refine St.then_normal ?_
      refine St.rg ?_
      refine St.ev _ (Ev.add (Opd.mk rfl) (Opd.mk rfl) (by omega)) rfl ?_
      refine St.ev _ (Ev.move (Opd.mk rfl)) rfl ?_
      refine St.nil ?_
      refine St.then_normal ?_
      refine St.againH (x.1 + 1, ((x.2.set (l.getD x.1 0) (x.1 : Int)).set (l.getD x.1 0) ((x.2.set (l.getD x.1 0) (x.1 : Int)).getD (l.getD (x.1 - 1) 0) 0))) ⟨hk1, by simp [hrl], ranked_t hp hk1 hrl hinv hc⟩ (by first | omega | (dsimp only; omega)) (by repeat (first | exact Sub.nil | refine Sub.cons (by first | rfl | exact congrArg (fun z => some (iv z)) (by first | omega | (dsimp only; omega)) | exact congrArg (fun z => some (Value.bool z)) (by first | assumption | exact Eq.symm (by assumption))) ?_)) (fun _ hw => hw.sub)
    · skip
      try simp only [Bool.and_true, Bool.true_and, decide_eq_true_eq, decide_eq_false_iff_not, Bool.and_eq_true, Bool.or_eq_true, Bool.and_eq_false_iff, Bool.or_eq_false_iff, Bool.not_eq_true', Bool.not_eq_false', beq_iff_eq, beq_eq_false_iff_ne, Int.not_lt, Int.not_le] at h37
      have hc : ¬ (0 < x.1 ∧ cf (l.getD (x.1 - 1) 0) (l.getD x.1 0) = 0) := by rintro ⟨q1, q2⟩; rcases h37 with q | q; omega; exact q q2
      refine St.skip ?_
      refine St.in_normal ?_
      refine St.then_normal ?_
      refine St.rg ?_
      refine St.ev _ (Ev.add (Opd.mk rfl) (Opd.mk rfl) (by omega)) rfl ?_
      refine St.ev _ (Ev.move (Opd.mk rfl)) rfl ?_
      refine St.nil ?_
      refine St.then_normal ?_
      refine St.againH (x.1 + 1, x.2.set (l.getD x.1 0) (x.1 : Int)) ⟨hk1, by simp [hrl], ranked_f hp hk1 hrl hinv hc⟩ (by first | omega | (dsimp only; omega)) (by repeat (first | exact Sub.nil | refine Sub.cons (by first | rfl | exact congrArg (fun z => some (iv z)) (by first | omega | (dsimp only; omega)) | exact congrArg (fun z => some (Value.bool z)) (by first | assumption | exact Eq.symm (by assumption))) ?_)) (fun _ hw => hw.sub)
  · skip
    try simp only [Bool.and_true, Bool.true_and, decide_eq_true_eq, decide_eq_false_iff_not, Bool.and_eq_true, Bool.or_eq_true, Bool.and_eq_false_iff, Bool.or_eq_false_iff, Bool.not_eq_true', Bool.not_eq_false', beq_iff_eq, beq_eq_false_iff_ne, Int.not_lt, Int.not_le] at h17
    refine St.exit ?_
    refine St.then_exit ?_
    refine St.then_exit ?_
    refine St.in_hit ?_
    refine St.then_normal ?_
    refine St.seq ?_
    refine St.rg ?_
    refine St.ev _ (Ev.move (Opd.mk rfl)) rfl ?_
    refine St.ev _ (Ev.assign (Opd.mk rfl)) rfl ?_
    refine St.nil ?_
    refine St.then_normal ?_
    refine St.rett ?_
    refine St.rets [_] [row vo 3 1 n (rows intR (ints l)), row (.slice (some ⟨b13, 0, none⟩) n n) 3 1 n (rows intR x.2)] Try.results38 ⟨rfl, trivial⟩ ?_ (fun _ hw => hw.sub)
    exact ⟨l, x.2, hp, hs, ⟨by rw [hrl, hll], fun k hk => hinv k (by omega)⟩, rfl, rfl⟩

end Go.Proofs.Ytblmnncmkibhnaa
