/-
  Several texts in one: YtgikcbfdonjggaaGreatDoorW5, YtgikcbfdonjggaaGreatDoorC2, YtgikcbfdonjggaaGreatDoorJ19, YtgikcbfdonjggaaGreatDoorCmpF, YtgikcbfdonjggaaGreatDoorJ23, YtgikcbfdonjggaaGreatDoorC3, YtgikcbfdonjggaaGreatDoorConQ, YtgikcbfdonjggaaGreatDoorC4, YtgikcbfdonjggaaGreatDoorJ18, YtgikcbfdonjggaaGreatDoorC5.
  Conditions: none.
-/
import Derived.Test.YtgikcbfdonjggaaGreatDoorGF3
import Derived.Test.YtgikcbfdonjggaaGreatDoorGF2
import Derived.Test.YtgikcbfdonjggaaGreatDoorGF1
import Derived.Lib.SliceRun
import Derived.Sort.Walk0
/-
  (YtgikcbfdonjggaaGreatDoorW5)
  The walks of the order by insertion, of the places, and of the search for a part.
  Conditions: none beyond the sizes.
-/
set_option maxRecDepth 20000
set_option linter.unusedSimpArgs false
set_option linter.unusedVariables false
namespace Go.Proofs.YtgikcbfdonjggaaGreatDoor
open Go Go.J

noncomputable def fnd (p ord part : List Int) : List Nat := if (bothF p ord).1 = 0 then placesOf p part else []
theorem fnd_t {p ord part : List Int} (h : (bothF p ord).1 = 0) : fnd p ord part = placesOf p part := by unfold fnd; rw [if_pos h]
theorem fnd_f {p ord part : List Int} (h : (bothF p ord).1 ≠ 0) : fnd p ord part = [] := by unfold fnd; rw [if_neg h]
theorem sort34_spec (v : Value) (xs : List Int) (hlen : xs.length < 4611686018427387904) : FnH Tryz.prog 83 #[v] [row v 3 1 xs.length (rows intR xs)] (fun u H' => u = .tuple #[] ∧ H' = [row v 3 1 xs.length (rows intR (xs.mergeSort fun x y => decide (x ≤ y)))]) :=
  sortI_spec Tryz.laysSlM5_f83 v 3 xs hlen
theorem suf_q1 {p part : List Int} : ∀ a b, a ≤ b → b < (sufOf p).length → (!llt (pre p part.length ((sufOf p).getD a 0)) part) = true → (!llt (pre p part.length ((sufOf p).getD b 0)) part) = true := by
  intro i j hij hj h
  rcases Nat.lt_or_ge i j with h1 | h1
  · have h2 := pre_mono (m := part.length) ((sufOf_is p).2 i j h1 hj)
    cases hc : llt (pre p part.length ((sufOf p).getD j 0)) part with
    | false => rfl
    | true =>
      exfalso
      rcases llt_tri (pre p part.length ((sufOf p).getD i 0)) (pre p part.length ((sufOf p).getD j 0)) with q | q | q
      · rw [llt_trans q hc] at h; cases h
      · rw [q, hc] at h; cases h
      · rw [h2] at q; cases q
  · obtain rfl : i = j := by omega
    exact h
theorem suf_q2 {p part : List Int} : ∀ a b, a ≤ b → b < (sufOf p).length → llt part (pre p part.length ((sufOf p).getD a 0)) = true → llt part (pre p part.length ((sufOf p).getD b 0)) = true := by
  intro i j hij hj h
  rcases Nat.lt_or_ge i j with h1 | h1
  · have h2 := pre_mono (m := part.length) ((sufOf_is p).2 i j h1 hj)
    rcases llt_tri (pre p part.length ((sufOf p).getD i 0)) (pre p part.length ((sufOf p).getD j 0)) with q | q | q
    · exact llt_trans h q
    · rw [← q]; exact h
    · rw [h2] at q; cases q
  · obtain rfl : i = j := by omega
    exact h

theorem Clone_spec (v0 : Value) (l : List Int) (hl : l.length ≤ 1000000) :
    FnH Tryz.prog 82 #[v0] ([sl intR v0 l].map dat) (fun v H' => v.oneCell' = true ∧ H' = [row v 3 1 l.length (rows intR l)]) := by
  refine FnH.bodyd1 (args := [v0]) 8 Tryz.func82 rfl Tryz.ntmps82 rfl (fun c => ?_)
  refine St.seq ?_
  refine St.shape v0 (fun ad cap hv hnil => ?_)
  subst hv
  refine St.rg ?_
  refine St.ev _ (Ev.assign (Opd.mk rfl)) rfl ?_
  refine St.nil ?_
  refine St.then_normal ?_
  refine St.seq ?_
  refine St.seq ?_
  refine St.rg ?_
  refine St.ev _ (Ev.move (Opd.mk rfl)) rfl ?_
  refine St.ev _ (Ev.slnil (Opd.mk rfl) Tryz.underlying25) rfl ?_
  refine St.nil ?_
  refine St.then_normal ?_
  refine St.cond _ rfl (fun h4 => ?_) (fun h4 => ?_)
  · skip
    try simp only [Bool.and_true, Bool.true_and, decide_eq_true_eq, decide_eq_false_iff_not, Bool.and_eq_true, Bool.or_eq_true, Bool.and_eq_false_iff, Bool.or_eq_false_iff, Bool.not_eq_true', Bool.not_eq_false', beq_iff_eq, beq_eq_false_iff_ne, Int.not_lt, Int.not_le] at h4
    refine St.seq ?_
    refine St.rg ?_
    refine St.ev _ (Ev.assign (Opd.mk rfl)) rfl ?_
    refine St.nil ?_
    refine St.then_normal ?_
    refine St.rett ?_
    refine St.then_ret ?_
    have e0 : l = [] := hnil (by cases ad <;> simp [isNil] at h4; rfl)
    subst e0
    refine St.nilrow 3 1 ?_
    refine St.rets [_] [row (.slice none 0 0) 3 1 0 []] Tryz.results82 ⟨rfl, trivial⟩ ?_ (fun _ hw => hw.sub)
    exact ⟨rfl, rfl⟩
  · skip
    try simp only [Bool.and_true, Bool.true_and, decide_eq_true_eq, decide_eq_false_iff_not, Bool.and_eq_true, Bool.or_eq_true, Bool.and_eq_false_iff, Bool.or_eq_false_iff, Bool.not_eq_true', Bool.not_eq_false', beq_iff_eq, beq_eq_false_iff_ne, Int.not_lt, Int.not_le] at h4
    refine St.skip ?_
    refine St.then_normal ?_
    refine St.seq ?_
    refine St.rg ?_
    refine St.buildSl (xs := []) (ps := []) rfl (Opds.nil) Tryz.underlying25 sz3 zv3 rfl rfl (by simp [Value.cells]) rfl rfl (fun b5 => ?_)
    refine St.ev _ (Ev.move (Opd.mk rfl)) rfl ?_
    refine St.appendSl (Opd.mk rfl) (Opd.mk rfl) Tryz.underlying25 sz3 zv3 by3 (rows_one _ _) (by omega) (by omega) rfl rfl trivial rfl (fun v7 hv7 => ?_)
    refine St.ev _ (Ev.assign (Opd.mk rfl)) rfl ?_
    refine St.nil ?_
    refine St.then_normal ?_
    refine St.rett ?_
    refine St.rowEqN v7 (show _ = l.length by simp) (show _ = rows intR l by rfl) ?_
    refine St.rowOne v7 (fun h1 _ => ?_)
    refine St.rets [_] [row v7 3 intR.size l.length (rows intR l)] Tryz.results82 ⟨rfl, trivial⟩ ?_ (fun _ hw => hw.sub)
    exact ⟨h1, rfl⟩

theorem swap_rows {L : List Nat} {j a b : Nat} : ((rows intR (ints L)).set (j * 1 + 0) (iv (a : Nat))).set ((j - 1) * 1 + 0) (iv (b : Nat)) = rows intR (ints ((L.set j a).set (j - 1) b)) := by rw [rowI2_set, rowI2_set]

theorem Find_spec (v0 v1 v2 : Value) (p ord part : List Int) (hsz : part.length ≤ 4611686018427387904) :
    FnH Tryz.prog 49 #[v0, v1, v2] ([sl intR v0 p, sl intR v1 ord, sl intR v2 part].map dat) (fun u H' => ∃ u0 : Value, u = .tuple #[u0, fv (bothF p ord)] ∧ u0.oneCell' = true ∧ H' = [row u0 3 1 (fnd p ord part).length (rows intR (ints (fnd p ord part)))]) := by
  refine FnH.body (args := [v0, v1, v2]) 38 Tryz.func49 rfl Tryz.ntmps49 rfl (fun c => ?_)
  refine St.seq ?_
  refine St.cast (H' := [dat (sl intR v0 p), dat (sl intR v1 ord), dat (sl intR v2 part)]) rfl ?_
  refine St.shape v0 (fun ad0 cp0 hsh0 _ => ?_)
  refine St.shape v1 (fun ad1 cp1 hsh1 _ => ?_)
  refine St.shape v2 (fun ad2 cp2 hsh2 _ => ?_)
  have hv0 : v0.oneCell' = true := by rw [hsh0]; rfl
  have hv1 : v1.oneCell' = true := by rw [hsh1]; rfl
  have hv2 : v2.oneCell' = true := by rw [hsh2]; rfl
  refine St.rg ?_
  refine St.box1 (Opd.mk rfl) hv0 rfl (fun b3 => ?_)
  refine St.box1 (Opd.mk rfl) hv1 rfl (fun b4 => ?_)
  refine St.box1 (Opd.mk rfl) hv2 rfl (fun b5 => ?_)
  refine St.ev _ (Ev.assign (Opd.mk rfl)) rfl ?_
  refine St.alloc zc30 rfl (fun b7 => ?_)
  refine St.nil ?_
  refine St.then_normal ?_
  refine St.seq ?_
  refine St.seq ?_
  refine St.rg ?_
  refine St.ev _ (Ev.ldb (Opd.mk rfl) Tryz.underlying25 trivial (by rfl)) rfl ?_
  refine St.ev _ (Ev.ldb (Opd.mk rfl) Tryz.underlying25 trivial (by rfl)) rfl ?_
  refine St.ev _ (Ev.call (both_spec v0 v1 p ord) cb76 (Opds.cons (Opd.mk rfl) (Opds.cons (Opd.mk rfl) Opds.nil))) rfl ?_
  refine St.alloc zc30 rfl (fun b8 => ?_)
  refine St.storeA (Opd.mk rfl) (Opd.mk rfl) sz30 (by first | simp only [List.length_cons, List.length_nil] | rfl) rfl ?_
  refine St.nil ?_
  refine St.then_normal ?_
  refine St.seq ?_
  refine St.rg ?_
  refine St.ev _ (Ev.fldb0 (Opd.mk rfl) fo30_0) rfl ?_
  refine St.ev _ (Ev.ldb (Opd.mk rfl) Tryz.underlying3 trivial (by rfl)) rfl ?_
  refine St.ev _ (Ev.neq (Opd.mk rfl) (Opd.mk rfl)) rfl ?_
  refine St.nil ?_
  refine St.then_normal ?_
  refine St.cond _ rfl (fun h18 => ?_) (fun h18 => ?_)
  · skip
    try simp only [Bool.and_true, Bool.true_and, decide_eq_true_eq, decide_eq_false_iff_not, Bool.and_eq_true, Bool.or_eq_true, Bool.and_eq_false_iff, Bool.or_eq_false_iff, Bool.not_eq_true', Bool.not_eq_false', beq_iff_eq, beq_eq_false_iff_ne, Int.not_lt, Int.not_le] at h18
    refine St.seq ?_
    refine St.par [b7] mixed ?_
    refine SW.defer 0 (by repeat (first | refine NP.then ?_ | refine NP.inBlock ?_ | exact NP.body)) (by kernel_rfl) rfl (fun R => Ev.ldbA (Opd.mk rfl) Tryz.underlying30 trivial (by exact sz30)) (by kernel_rfl) rfl ?_
    refine SW.defer 1 (by repeat (first | refine NP.then ?_ | refine NP.inBlock ?_ | exact NP.body)) (by kernel_rfl) rfl (fun R => Ev.assign (Opd.mk rfl)) (by kernel_rfl) rfl ?_
    refine SW.turn1 (i := 2) (by kernel_rfl) rfl ?_
    refine St.storeA (Opd.mk rfl) (Opd.mk rfl) sz30 (by first | simp only [List.length_cons, List.length_nil] | rfl) rfl ?_
    refine St.nil ?_
    refine St.then_normal ?_
    refine SW.go ?_
    refine SW.done (by kernel_rfl) ?_
    refine St.then_normal ?_
    refine St.rett ?_
    refine St.then_ret ?_
    refine St.nilrow 3 1 ?_
    refine St.rets [_, _] [row (.slice none 0 0) 3 1 0 []] Tryz.results49 ⟨rfl, ⟨⟨_, _, _, _, rfl, InB.mem, .inl ⟨⟨_, Tryz.underlying30⟩, sz30, rfl⟩⟩, trivial⟩⟩ ?_ (fun _ hw => hw.sub)
    rw [fnd_f h18]; exact ⟨_, rfl, rfl, rfl⟩
  · skip
    try simp only [Bool.and_true, Bool.true_and, decide_eq_true_eq, decide_eq_false_iff_not, Bool.and_eq_true, Bool.or_eq_true, Bool.and_eq_false_iff, Bool.or_eq_false_iff, Bool.not_eq_true', Bool.not_eq_false', beq_iff_eq, beq_eq_false_iff_ne, Int.not_lt, Int.not_le] at h18
    clear hsh0 hsh1 hsh2
    obtain ⟨hf0, ho⟩ := bothF_ok (p := p) (ord := ord) (by omega)
    have hbz := bothF_3 hf0 ho
    subst ho
    have hok := sFault_ok hf0
    have hln := suf_len p
    have hli := ints_length (sufOf p)
    have hcut := places_cut (part := part) (sufOf_is p) rfl rfl
    obtain ⟨hc1, hc2, hc3⟩ := hcut
    refine St.skip ?_
    refine St.then_normal ?_
    refine St.seq ?_
    refine St.rg ?_
    refine St.ev _ (Ev.func (Opds.cons (Opd.mk rfl) (Opds.cons (Opd.mk rfl) Opds.nil))) rfl ?_
    refine St.alloc zc107 rfl (fun b9 => ?_)
    refine St.store1 (Opd.mk rfl) (Opd.mk rfl) sz107 rfl (by rfl) ?_
    refine St.nil ?_
    refine St.then_normal ?_
    refine St.seq ?_
    refine St.rg ?_
    refine St.ev _ (Ev.ldb (Opd.mk rfl) Tryz.underlying25 trivial (by rfl)) rfl ?_
    refine St.ev _ (Ev.lensl (Opd.mk rfl) Tryz.underlying25) rfl ?_
    rw [hli]
    refine St.ev _ (Ev.func (Opds.cons (Opd.mk rfl) (Opds.cons (Opd.mk rfl) (Opds.cons (Opd.mk rfl) Opds.nil)))) rfl ?_
    refine St.ev _ (Ev.callL (Search_spec (sufOf p).length (by omega) (fun k => !llt (pre p part.length ((sufOf p).getD k 0)) part) suf_q1 79 cb79 [Value.pointer (some ⟨b9, 0, none⟩), Value.pointer (some ⟨b4, 0, none⟩), Value.pointer (some ⟨b5, 0, none⟩)] (allD [cel b9 (.func (.func 77) #[] #[Value.pointer (some ⟨b3, 0, none⟩), Value.pointer (some ⟨b5, 0, none⟩)]), cel b4 v1, cel b5 v2, cel b3 v0, sl intR v0 p, sl intR v1 (ints (sufOf p)), sl intR v2 part]) (fun k hk => (find2_spec v0 v1 v2 p part (sufOf p) hok.1 hsz (sufOf_is p).1 b3 b5 b9 b4 k hk).all)) cb78 (Opds.cons (Opd.mk rfl) (Opds.cons (Opd.mk rfl) Opds.nil)) (Lent.allD (Lent.blk (Lent.blk (Lent.blk (Lent.blk (Lent.dat (Lent.dat (Lent.dat Lent.nil))))))))) rfl ?_
    refine St.ev _ (Ev.assign (Opd.mk rfl)) rfl ?_
    refine St.nil ?_
    refine St.then_normal ?_
    refine St.seq ?_
    refine St.rg ?_
    refine St.ev _ (Ev.ldb (Opd.mk rfl) Tryz.underlying25 trivial (by rfl)) rfl ?_
    refine St.ev _ (Ev.lensl (Opd.mk rfl) Tryz.underlying25) rfl ?_
    rw [hli]
    refine St.ev _ (Ev.func (Opds.cons (Opd.mk rfl) (Opds.cons (Opd.mk rfl) (Opds.cons (Opd.mk rfl) Opds.nil)))) rfl ?_
    refine St.ev _ (Ev.callL (Search_spec (sufOf p).length (by omega) (fun k => llt part (pre p part.length ((sufOf p).getD k 0))) suf_q2 81 cb81 [Value.pointer (some ⟨b9, 0, none⟩), Value.pointer (some ⟨b4, 0, none⟩), Value.pointer (some ⟨b5, 0, none⟩)] (allD [cel b9 (.func (.func 77) #[] #[Value.pointer (some ⟨b3, 0, none⟩), Value.pointer (some ⟨b5, 0, none⟩)]), cel b4 v1, cel b5 v2, cel b3 v0, sl intR v0 p, sl intR v1 (ints (sufOf p)), sl intR v2 part]) (fun k hk => (find3_spec v0 v1 v2 p part (sufOf p) hok.1 hsz (sufOf_is p).1 b3 b5 b9 b4 k hk).all)) cb78 (Opds.cons (Opd.mk rfl) (Opds.cons (Opd.mk rfl) Opds.nil)) (Lent.allD (Lent.blk (Lent.blk (Lent.blk (Lent.blk (Lent.dat (Lent.dat (Lent.dat Lent.nil))))))))) rfl ?_
    refine St.ev _ (Ev.assign (Opd.mk rfl)) rfl ?_
    refine St.nil ?_
    refine St.then_normal ?_
    refine St.seq ?_
    generalize hga : ((List.range (sufOf p).length).countP (fun k => !(!llt (pre p part.length ((sufOf p).getD k 0)) part))) = ca at hc1 hc2 hc3 ⊢
    generalize hgb : ((List.range (sufOf p).length).countP (fun k => !(llt part (pre p part.length ((sufOf p).getD k 0))))) = cb at hc1 hc2 hc3 ⊢
    refine St.part v1 ca cb hc1 (by omega) ?_
    have hgl : (((sufOf p).drop ca).take (cb - ca)).length = cb - ca := by simp; omega
    rw [show ((ints (sufOf p)).drop ca).take (cb - ca) = ints (((sufOf p).drop ca).take (cb - ca)) by simp [ints, List.map_drop, List.map_take], show intR.size = 1 from rfl]
    have hsp := sort_perm hc3 (placesOf_sorted p part)
    have hpl := hc3.length_eq
    generalize hgx : ((sufOf p).drop ca).take (cb - ca) = xs at hgl hc3 hsp hpl ⊢
    have hxl := ints_length xs
    refine St.rg ?_
    refine St.ev _ (Ev.ldb (Opd.mk rfl) Tryz.underlying25 trivial (by rfl)) rfl ?_
    refine St.ev _ (Ev.move (Opd.mk rfl)) rfl ?_
    refine St.ev _ (Ev.move (Opd.mk rfl)) rfl ?_
    refine St.ev _ (Ev.slicesl (l := ca) (h := cb) (Opd.mk rfl) (Opd.mk rfl) (Opd.mk rfl) Tryz.underlying25 sz3 (by omega) (by omega) hc1 (by omega)) rfl ?_
    refine St.calld (Clone_spec (slv v1 1 ca cb) (ints xs) (by omega)) cb82 (Opds.cons (Opd.mk rfl) Opds.nil) rfl ?_
    rintro v33 _ ⟨h1, rfl⟩
    refine St.app1 ?_
    refine St.ev _ (Ev.assign (Opd.mk rfl)) rfl ?_
    refine St.nil ?_
    refine St.then_normal ?_
    refine St.seq ?_
    refine St.rg ?_
    refine St.ev _ (Ev.move (Opd.mk rfl)) rfl ?_
    refine St.call (sort34_spec v33 (ints xs) (by omega)) cb83 (Opds.cons (Opd.mk rfl) Opds.nil) rfl ?_
    rintro v35 _ ⟨rfl, rfl⟩
    refine St.app1 ?_
    refine St.rowEqN v33 (show _ = (placesOf p part).length by rw [← hpl]; exact hxl) (show _ = rows intR (ints (placesOf p part)) by rw [hsp]) ?_
    refine St.nil ?_
    refine St.then_normal ?_
    refine St.seq ?_
    refine St.rg ?_
    refine St.ev _ (Ev.move (Opd.mk rfl)) rfl ?_
    refine St.ev _ (Ev.build (ps := []) (Opds.nil) (fun w => bld30_  w)) rfl ?_
    refine St.ev _ (Ev.assign (Opd.mk rfl)) rfl ?_
    refine St.storeA (Opd.mk rfl) (Opd.mk rfl) sz30 (by first | simp only [List.length_cons, List.length_nil] | rfl) rfl ?_
    refine St.nil ?_
    refine St.then_normal ?_
    refine St.rett ?_
    refine St.rets [_, _] [row v33 3 1 (placesOf p part).length (rows intR (ints (placesOf p part)))] Tryz.results49 ⟨rfl, ⟨⟨_, _, _, _, rfl, InB.mem, .inl ⟨⟨_, Tryz.underlying30⟩, sz30, rfl⟩⟩, trivial⟩⟩ ?_ (fun _ hw => hw.sub)
    rw [fnd_t (by rw [hbz]), hbz]; exact ⟨_, rfl, h1, rfl⟩

end Go.Proofs.YtgikcbfdonjggaaGreatDoor

/-
  (YtgikcbfdonjggaaGreatDoorC2)
  The walks of the checks, of numbers of words, of parts at places.
  Conditions: none beyond the sizes.
-/
set_option maxRecDepth 20000
set_option linter.unusedSimpArgs false
set_option linter.unusedVariables false
namespace Go.Proofs.YtgikcbfdonjggaaGreatDoor
open Go Go.J

theorem wlen {x : Str} (h : strR.wf x) : x.length < 9223372036854775807 := by
  have : x.length ≤ 140737488351232 := h
  omega

theorem Sentence_spec (v0 : Value) (s : List Str) (a : Int) : FnVw Tryz.prog 26 #[v0, iv a] [sl strR v0 s, u8] (fv (sentF s a)) := by
  refine FnVw.body (args := [v0, iv a]) (ds := [(sl strR v0 s), u8]) 30 Tryz.func26 rfl Tryz.ntmps26 rfl (fun c hdr => ?_)
  change St _ _ (Mm c [dat (sl strR v0 s), dat u8]) _
  refine St.seq ?_
  refine St.wf v0 (fun hwf hlen => ?_)
  refine St.rg ?_
  refine St.alloc zc30 rfl (fun b4 => ?_)
  refine St.nil ?_
  refine St.then_normal ?_
  refine St.seq ?_
  refine St.seq ?_
  refine St.rg ?_
  refine St.ev _ (Ev.move (Opd.mk rfl)) rfl ?_
  refine St.ev _ (Ev.lensl (Opd.mk rfl) Tryz.underlying23) rfl ?_
  refine St.ev _ (Ev.eql (Opd.mk rfl) (Opd.mk rfl)) rfl ?_
  refine St.ev _ (Ev.move (Opd.mk rfl)) rfl ?_
  refine St.gf _ rfl rfl (fun hg => Ev.move (Opd.mk rfl)) rfl ?_
  refine St.gf _ rfl rfl (fun hg => Ev.lensl (Opd.gv rfl hg) Tryz.underlying23) rfl ?_
  refine St.gf _ rfl rfl (fun hg => Ev.gtr (Opd.gv rfl hg) (Opd.mk rfl)) rfl ?_
  refine St.ev _ (Ev.or (Opd.mk rfl) (fun hp => Opd.gv rfl hp)) rfl ?_
  refine St.nil ?_
  refine St.then_normal ?_
  refine St.cond _ rfl (fun h14 => ?_) (fun h14 => ?_)
  · skip
    try simp only [Bool.and_true, Bool.true_and, decide_eq_true_eq, decide_eq_false_iff_not, Bool.and_eq_true, Bool.or_eq_true, Bool.and_eq_false_iff, Bool.or_eq_false_iff, Bool.not_eq_true', Bool.not_eq_false', beq_iff_eq, beq_eq_false_iff_ne, Int.not_lt, Int.not_le] at h14
    refine St.seq ?_
    refine St.rg ?_
    refine St.ev _ (Ev.move (Opd.mk rfl)) rfl ?_
    refine St.ev _ (Ev.build (ps := [(0, (Operand.const (Value.int IntKind.i64 9))), (1, (Operand.tmp 15))]) (Opds.cons (Opd.mk rfl) (Opds.cons (Opd.mk rfl) Opds.nil)) (fun w => bld30_0_1 rfl rfl w)) rfl ?_
    refine St.storeA (Opd.mk rfl) (Opd.mk rfl) sz30 (by first | simp only [List.length_cons, List.length_nil] | rfl) rfl ?_
    refine St.nil ?_
    refine St.then_normal ?_
    refine St.rett ?_
    refine St.then_ret ?_
    refine St.rets [_] [] Tryz.results26 ⟨⟨_, _, _, _, rfl, InB.mem, .inl ⟨⟨_, Tryz.underlying30⟩, sz30, rfl⟩⟩, trivial⟩ ?_ (fun _ hw => hw.sub)
    exact fe (by unfold sentF; rw [if_pos (by omega)])
  · skip
    try simp only [Bool.and_true, Bool.true_and, decide_eq_true_eq, decide_eq_false_iff_not, Bool.and_eq_true, Bool.or_eq_true, Bool.and_eq_false_iff, Bool.or_eq_false_iff, Bool.not_eq_true', Bool.not_eq_false', beq_iff_eq, beq_eq_false_iff_ne, Int.not_lt, Int.not_le] at h14
    refine St.skip ?_
    refine St.then_normal ?_
    refine St.seq ?_
    refine St.seq ?_
    refine St.rg ?_
    refine St.ev _ (Ev.move (Opd.mk rfl)) rfl ?_
    refine St.ev _ (Ev.lensl (Opd.mk rfl) Tryz.underlying23) rfl ?_
    refine St.ev _ (Ev.move (Opd.mk rfl)) rfl ?_
    refine St.nil ?_
    refine St.then_normal ?_
    refine St.block ?_
    refine St.loopS (ι := Nat) (fun k T => (19, iv k) :: T) (fun k => k ≤ s.length ∧ (s.take k).all isWord = true) (fun k => s.length - k) 0 (Keep.cons 1 rfl (Keep.cons 4 rfl (Keep.cons 17 rfl (Keep.cons 18 rfl Keep.nil)))) ⟨Nat.zero_le _, rfl⟩ (by repeat (first | exact Sub.nil | refine Sub.cons (by first | rfl | exact congrArg (fun z => some (iv z)) (by first | omega | (dsimp only; omega)) | exact congrArg (fun z => some (Value.bool z)) (by first | assumption | exact Eq.symm (by assumption))) ?_)) ?_
    intro k hphi
    obtain ⟨hk, hv⟩ := hphi
    refine St.seq ?_
    refine St.rg ?_
    refine St.ev _ (Ev.lss (Opd.mk rfl) (Opd.mk rfl)) rfl ?_
    refine St.nil ?_
    refine St.then_normal ?_
    refine St.seq ?_
    refine St.cond _ rfl (fun h20 => ?_) (fun h20 => ?_)
    · skip
      try simp only [Bool.and_true, Bool.true_and, decide_eq_true_eq, decide_eq_false_iff_not, Bool.and_eq_true, Bool.or_eq_true, Bool.and_eq_false_iff, Bool.or_eq_false_iff, Bool.not_eq_true', Bool.not_eq_false', beq_iff_eq, beq_eq_false_iff_ne, Int.not_lt, Int.not_le] at h20
      obtain ⟨w, hw⟩ := some_of_lt (show k < s.length by omega)
      have hwm := List.mem_of_getElem? hw
      refine St.skip ?_
      refine St.then_normal ?_
      refine St.seq ?_
      refine St.block ?_
      refine St.seq ?_
      refine St.rg ?_
      refine St.ev _ (Ev.idxaddr (k := k) (Opd.mk rfl) (Opd.mk rfl) Tryz.underlying23 sz9 (by omega) (by omega)) rfl ?_
      refine St.ev _ (Ev.ld1 (Opd.mk rfl) hw Tryz.underlying9 trivial rfl) rfl ?_
      refine St.ev _ (Ev.assign (Opd.mk rfl)) rfl ?_
      refine St.nil ?_
      refine St.then_normal ?_
      refine St.seq ?_
      refine St.rg ?_
      refine St.ev _ (Ev.move (Opd.mk rfl)) rfl ?_
      refine St.ev _ (Ev.callW hdr (Word_spec w (wlen (hwf w hwm))) cb34 (Opds.cons (Opd.mk rfl) Opds.nil)) rfl ?_
      refine St.ev _ (Ev.not (Opd.mk rfl)) rfl ?_
      refine St.nil ?_
      refine St.then_normal ?_
      refine St.cond _ rfl (fun h25 => ?_) (fun h25 => ?_)
      · skip
        simp only [Bool.not_eq_true', Bool.not_eq_false'] at h25
        refine St.seq ?_
        refine St.rg ?_
        refine St.ev _ (Ev.move (Opd.mk rfl)) rfl ?_
        refine St.ev _ (Ev.build (ps := [(0, (Operand.const (Value.int IntKind.i64 10))), (1, (Operand.tmp 26))]) (Opds.cons (Opd.mk rfl) (Opds.cons (Opd.mk rfl) Opds.nil)) (fun w => bld30_0_1 rfl rfl w)) rfl ?_
        refine St.storeA (Opd.mk rfl) (Opd.mk rfl) sz30 (by first | simp only [List.length_cons, List.length_nil] | rfl) rfl ?_
        refine St.nil ?_
        refine St.then_normal ?_
        refine St.rett ?_
        refine St.in_ret ?_
        refine St.then_ret ?_
        refine St.then_ret ?_
        refine St.in_ret ?_
        refine St.then_ret ?_
        refine St.rets [_] [] Tryz.results26 ⟨⟨_, _, _, _, rfl, InB.mem, .inl ⟨⟨_, Tryz.underlying30⟩, sz30, rfl⟩⟩, trivial⟩ ?_ (fun _ hw => hw.sub)
        exact fe (by unfold sentF; rw [if_neg (by omega), if_neg (by intro q; rw [List.all_eq_true.1 q w hwm] at h25; cases h25)])
      · skip
        simp only [Bool.not_eq_true', Bool.not_eq_false'] at h25
        refine St.skip ?_
        refine St.in_normal ?_
        refine St.then_normal ?_
        refine St.rg ?_
        refine St.ev _ (Ev.add (Opd.mk rfl) (Opd.mk rfl) (by omega)) rfl ?_
        refine St.ev _ (Ev.move (Opd.mk rfl)) rfl ?_
        refine St.nil ?_
        refine St.then_normal ?_
        refine St.againS (k + 1) ⟨by omega, all_take_some hv hw h25⟩ (by first | omega | (dsimp only; omega)) (by repeat (first | exact Sub.nil | refine Sub.cons (by first | rfl | exact congrArg (fun z => some (iv z)) (by first | omega | (dsimp only; omega)) | exact congrArg (fun z => some (Value.bool z)) (by first | assumption | exact Eq.symm (by assumption))) ?_)) (fun _ hw => hw.sub)
    · skip
      try simp only [Bool.and_true, Bool.true_and, decide_eq_true_eq, decide_eq_false_iff_not, Bool.and_eq_true, Bool.or_eq_true, Bool.and_eq_false_iff, Bool.or_eq_false_iff, Bool.not_eq_true', Bool.not_eq_false', beq_iff_eq, beq_eq_false_iff_ne, Int.not_lt, Int.not_le] at h20
      refine St.exit ?_
      refine St.then_exit ?_
      refine St.then_exit ?_
      refine St.in_hit ?_
      refine St.then_normal ?_
      refine St.seq ?_
      refine St.rg ?_
      refine St.ev _ (Ev.build (ps := []) (Opds.nil) (fun w => bld30_  w)) rfl ?_
      refine St.storeA (Opd.mk rfl) (Opd.mk rfl) sz30 (by first | simp only [List.length_cons, List.length_nil] | rfl) rfl ?_
      refine St.nil ?_
      refine St.then_normal ?_
      refine St.rett ?_
      refine St.rets [_] [] Tryz.results26 ⟨⟨_, _, _, _, rfl, InB.mem, .inl ⟨⟨_, Tryz.underlying30⟩, sz30, rfl⟩⟩, trivial⟩ ?_ (fun _ hw => hw.sub)
      exact fe (by unfold sentF; rw [if_neg (by omega), if_pos (by rw [List.take_of_length_le (by omega)] at hv; exact hv)])

theorem SentenceFault_spec (v0 : Value) (s : List Str) (a : Int) : FnV Tryz.prog 32 #[v0, iv a] [sl strR v0 s] (fv (sentF s a)) := by
  refine FnV.body1 (args := [v0, iv a]) 31 Tryz.func32 rfl Tryz.ntmps32 rfl (fun c => ?_)
  refine St.seq ?_
  refine St.wf v0 (fun hwf hlen => ?_)
  refine St.rg ?_
  refine St.alloc zc30 rfl (fun b4 => ?_)
  refine St.nil ?_
  refine St.then_normal ?_
  refine St.seq ?_
  refine St.seq ?_
  refine St.rg ?_
  refine St.ev _ (Ev.move (Opd.mk rfl)) rfl ?_
  refine St.ev _ (Ev.lensl (Opd.mk rfl) Tryz.underlying23) rfl ?_
  refine St.ev _ (Ev.eql (Opd.mk rfl) (Opd.mk rfl)) rfl ?_
  refine St.ev _ (Ev.move (Opd.mk rfl)) rfl ?_
  refine St.gf _ rfl rfl (fun hg => Ev.move (Opd.mk rfl)) rfl ?_
  refine St.gf _ rfl rfl (fun hg => Ev.lensl (Opd.gv rfl hg) Tryz.underlying23) rfl ?_
  refine St.gf _ rfl rfl (fun hg => Ev.gtr (Opd.gv rfl hg) (Opd.mk rfl)) rfl ?_
  refine St.ev _ (Ev.or (Opd.mk rfl) (fun hp => Opd.gv rfl hp)) rfl ?_
  refine St.nil ?_
  refine St.then_normal ?_
  refine St.cond _ rfl (fun h13 => ?_) (fun h13 => ?_)
  · skip
    try simp only [Bool.and_true, Bool.true_and, decide_eq_true_eq, decide_eq_false_iff_not, Bool.and_eq_true, Bool.or_eq_true, Bool.and_eq_false_iff, Bool.or_eq_false_iff, Bool.not_eq_true', Bool.not_eq_false', beq_iff_eq, beq_eq_false_iff_ne, Int.not_lt, Int.not_le] at h13
    refine St.seq ?_
    refine St.rg ?_
    refine St.ev _ (Ev.move (Opd.mk rfl)) rfl ?_
    refine St.ev _ (Ev.build (ps := [(0, (Operand.const (Value.int IntKind.i64 9))), (1, (Operand.tmp 14))]) (Opds.cons (Opd.mk rfl) (Opds.cons (Opd.mk rfl) Opds.nil)) (fun w => bld30_0_1 rfl rfl w)) rfl ?_
    refine St.storeA (Opd.mk rfl) (Opd.mk rfl) sz30 (by first | simp only [List.length_cons, List.length_nil] | rfl) rfl ?_
    refine St.nil ?_
    refine St.then_normal ?_
    refine St.rett ?_
    refine St.then_ret ?_
    refine St.rets [_] [] Tryz.results32 ⟨⟨_, _, _, _, rfl, InB.mem, .inl ⟨⟨_, Tryz.underlying30⟩, sz30, rfl⟩⟩, trivial⟩ ?_ (fun _ hw => hw.sub)
    exact fe (by unfold sentF; rw [if_pos (by omega)])
  · skip
    try simp only [Bool.and_true, Bool.true_and, decide_eq_true_eq, decide_eq_false_iff_not, Bool.and_eq_true, Bool.or_eq_true, Bool.and_eq_false_iff, Bool.or_eq_false_iff, Bool.not_eq_true', Bool.not_eq_false', beq_iff_eq, beq_eq_false_iff_ne, Int.not_lt, Int.not_le] at h13
    refine St.skip ?_
    refine St.then_normal ?_
    refine St.seq ?_
    refine St.seq ?_
    refine St.rg ?_
    refine St.ev _ (Ev.assign (Opd.mk rfl)) rfl ?_
    refine St.nil ?_
    refine St.then_normal ?_
    refine St.block ?_
    refine St.loopS (ι := Nat) (fun k T => (5, iv k) :: T) (fun k => k ≤ s.length ∧ (s.take k).all isWord = true) (fun k => s.length - k) 0 (Keep.cons 0 rfl (Keep.cons 1 rfl (Keep.cons 4 rfl Keep.nil))) ⟨Nat.zero_le _, rfl⟩ (by repeat (first | exact Sub.nil | refine Sub.cons (by first | rfl | exact congrArg (fun z => some (iv z)) (by first | omega | (dsimp only; omega)) | exact congrArg (fun z => some (Value.bool z)) (by first | assumption | exact Eq.symm (by assumption))) ?_)) ?_
    intro k hphi
    obtain ⟨hk, hv⟩ := hphi
    refine St.seq ?_
    refine St.seq ?_
    refine St.rg ?_
    refine St.ev _ (Ev.move (Opd.mk rfl)) rfl ?_
    refine St.ev _ (Ev.move (Opd.mk rfl)) rfl ?_
    refine St.ev _ (Ev.lensl (Opd.mk rfl) Tryz.underlying23) rfl ?_
    refine St.ev _ (Ev.lss (Opd.mk rfl) (Opd.mk rfl)) rfl ?_
    refine St.nil ?_
    refine St.then_normal ?_
    refine St.cond _ rfl (fun h19 => ?_) (fun h19 => ?_)
    · skip
      try simp only [Bool.and_true, Bool.true_and, decide_eq_true_eq, decide_eq_false_iff_not, Bool.and_eq_true, Bool.or_eq_true, Bool.and_eq_false_iff, Bool.or_eq_false_iff, Bool.not_eq_true', Bool.not_eq_false', beq_iff_eq, beq_eq_false_iff_ne, Int.not_lt, Int.not_le] at h19
      obtain ⟨w, hw⟩ := some_of_lt (show k < s.length by omega)
      have hwm := List.mem_of_getElem? hw
      refine St.skip ?_
      refine St.then_normal ?_
      refine St.seq ?_
      refine St.block ?_
      refine St.seq ?_
      refine St.rg ?_
      refine St.ev _ (Ev.move (Opd.mk rfl)) rfl ?_
      refine St.ev _ (Ev.move (Opd.mk rfl)) rfl ?_
      refine St.ev _ (Ev.idxaddr (k := k) (Opd.mk rfl) (Opd.mk rfl) Tryz.underlying23 sz9 (by omega) (by omega)) rfl ?_
      refine St.ev _ (Ev.ld1 (Opd.mk rfl) hw Tryz.underlying9 trivial rfl) rfl ?_
      refine St.ev _ (Ev.call (IsWord_spec w (wlen (hwf w hwm))) cb21 (Opds.cons (Opd.mk rfl) Opds.nil)) rfl ?_
      refine St.ev _ (Ev.not (Opd.mk rfl)) rfl ?_
      refine St.nil ?_
      refine St.then_normal ?_
      refine St.cond _ rfl (fun h27 => ?_) (fun h27 => ?_)
      · skip
        simp only [Bool.not_eq_true', Bool.not_eq_false'] at h27
        refine St.seq ?_
        refine St.rg ?_
        refine St.ev _ (Ev.move (Opd.mk rfl)) rfl ?_
        refine St.ev _ (Ev.build (ps := [(0, (Operand.const (Value.int IntKind.i64 10))), (1, (Operand.tmp 28))]) (Opds.cons (Opd.mk rfl) (Opds.cons (Opd.mk rfl) Opds.nil)) (fun w => bld30_0_1 rfl rfl w)) rfl ?_
        refine St.storeA (Opd.mk rfl) (Opd.mk rfl) sz30 (by first | simp only [List.length_cons, List.length_nil] | rfl) rfl ?_
        refine St.nil ?_
        refine St.then_normal ?_
        refine St.rett ?_
        refine St.in_ret ?_
        refine St.then_ret ?_
        refine St.then_ret ?_
        refine St.in_ret ?_
        refine St.then_ret ?_
        refine St.rets [_] [] Tryz.results32 ⟨⟨_, _, _, _, rfl, InB.mem, .inl ⟨⟨_, Tryz.underlying30⟩, sz30, rfl⟩⟩, trivial⟩ ?_ (fun _ hw => hw.sub)
        exact fe (by unfold sentF; rw [if_neg (by omega), if_neg (by intro q; rw [List.all_eq_true.1 q w hwm] at h27; cases h27)])
      · skip
        simp only [Bool.not_eq_true', Bool.not_eq_false'] at h27
        refine St.skip ?_
        refine St.in_normal ?_
        refine St.then_normal ?_
        refine St.rg ?_
        refine St.ev _ (Ev.move (Opd.mk rfl)) rfl ?_
        refine St.ev _ (Ev.add (Opd.mk rfl) (Opd.mk rfl) (by omega)) rfl ?_
        refine St.ev _ (Ev.assign (Opd.mk rfl)) rfl ?_
        refine St.nil ?_
        refine St.then_normal ?_
        refine St.againS (k + 1) ⟨by omega, all_take_some hv hw h27⟩ (by first | omega | (dsimp only; omega)) (by repeat (first | exact Sub.nil | refine Sub.cons (by first | rfl | exact congrArg (fun z => some (iv z)) (by first | omega | (dsimp only; omega)) | exact congrArg (fun z => some (Value.bool z)) (by first | assumption | exact Eq.symm (by assumption))) ?_)) (fun _ hw => hw.sub)
    · skip
      try simp only [Bool.and_true, Bool.true_and, decide_eq_true_eq, decide_eq_false_iff_not, Bool.and_eq_true, Bool.or_eq_true, Bool.and_eq_false_iff, Bool.or_eq_false_iff, Bool.not_eq_true', Bool.not_eq_false', beq_iff_eq, beq_eq_false_iff_ne, Int.not_lt, Int.not_le] at h19
      refine St.exit ?_
      refine St.then_exit ?_
      refine St.then_exit ?_
      refine St.in_hit ?_
      refine St.then_normal ?_
      refine St.seq ?_
      refine St.rg ?_
      refine St.ev _ (Ev.build (ps := []) (Opds.nil) (fun w => bld30_  w)) rfl ?_
      refine St.storeA (Opd.mk rfl) (Opd.mk rfl) sz30 (by first | simp only [List.length_cons, List.length_nil] | rfl) rfl ?_
      refine St.nil ?_
      refine St.then_normal ?_
      refine St.rett ?_
      refine St.rets [_] [] Tryz.results32 ⟨⟨_, _, _, _, rfl, InB.mem, .inl ⟨⟨_, Tryz.underlying30⟩, sz30, rfl⟩⟩, trivial⟩ ?_ (fun _ hw => hw.sub)
      exact fe (by unfold sentF; rw [if_neg (by omega), if_pos (by rw [List.take_of_length_le (by omega)] at hv; exact hv)])

theorem ConcordFault_spec (v0 : Value) (l : List (List Str)) : FnV Tryz.prog 12 #[v0] [nsl strR v0 l] (fv (conF l)) := by
  refine FnV.body1 (args := [v0]) 26 Tryz.func12 rfl Tryz.ntmps12 rfl (fun c => ?_)
  refine St.seq ?_
  refine St.openNs v0 (fun vs hvl => ?_)
  refine St.wf v0 (fun hwf hlen => ?_)
  refine St.rg ?_
  refine St.alloc zc30 rfl (fun b2 => ?_)
  refine St.nil ?_
  refine St.then_normal ?_
  refine St.seq ?_
  refine St.seq ?_
  refine St.rg ?_
  refine St.ev _ (Ev.move (Opd.mk rfl)) rfl ?_
  refine St.ev _ (Ev.lensl (Opd.mk rfl) Tryz.underlying22) rfl ?_
  refine St.ev _ (Ev.gtr (Opd.mk rfl) (Opd.mk rfl)) rfl ?_
  refine St.nil ?_
  refine St.then_normal ?_
  refine St.cond _ rfl (fun h7 => ?_) (fun h7 => ?_)
  · skip
    try simp only [Bool.and_true, Bool.true_and, decide_eq_true_eq, decide_eq_false_iff_not, Bool.and_eq_true, Bool.or_eq_true, Bool.and_eq_false_iff, Bool.or_eq_false_iff, Bool.not_eq_true', Bool.not_eq_false', beq_iff_eq, beq_eq_false_iff_ne, Int.not_lt, Int.not_le] at h7
    refine St.seq ?_
    refine St.rg ?_
    refine St.ev _ (Ev.build (ps := [(0, (Operand.const (Value.int IntKind.i64 2))), (1, (Operand.const (Value.int IntKind.i64 (-1))))]) (Opds.cons (Opd.mk rfl) (Opds.cons (Opd.mk rfl) Opds.nil)) (fun w => bld30_0_1 rfl rfl w)) rfl ?_
    refine St.storeA (Opd.mk rfl) (Opd.mk rfl) sz30 (by first | simp only [List.length_cons, List.length_nil] | rfl) rfl ?_
    refine St.nil ?_
    refine St.then_normal ?_
    refine St.rett ?_
    refine St.then_ret ?_
    refine St.rets [_] [] Tryz.results12 ⟨⟨_, _, _, _, rfl, InB.mem, .inl ⟨⟨_, Tryz.underlying30⟩, sz30, rfl⟩⟩, trivial⟩ ?_ (fun _ hw => hw.sub)
    exact fe (by unfold conF; rw [if_pos (by omega)])
  · skip
    try simp only [Bool.and_true, Bool.true_and, decide_eq_true_eq, decide_eq_false_iff_not, Bool.and_eq_true, Bool.or_eq_true, Bool.and_eq_false_iff, Bool.or_eq_false_iff, Bool.not_eq_true', Bool.not_eq_false', beq_iff_eq, beq_eq_false_iff_ne, Int.not_lt, Int.not_le] at h7
    refine St.skip ?_
    refine St.then_normal ?_
    refine St.seq ?_
    refine St.seq ?_
    refine St.rg ?_
    refine St.ev _ (Ev.assign (Opd.mk rfl)) rfl ?_
    refine St.nil ?_
    refine St.then_normal ?_
    refine St.block ?_
    refine St.loopS (ι := Nat) (fun k T => (3, iv k) :: T) (fun k => k ≤ l.length ∧ conF l = conFrom k (l.drop k)) (fun k => l.length - k) 0 (Keep.cons 0 rfl (Keep.cons 2 rfl Keep.nil)) ⟨Nat.zero_le _, by unfold conF; rw [if_neg (by omega)]; rfl⟩ (by repeat (first | exact Sub.nil | refine Sub.cons (by first | rfl | exact congrArg (fun z => some (iv z)) (by first | omega | (dsimp only; omega)) | exact congrArg (fun z => some (Value.bool z)) (by first | assumption | exact Eq.symm (by assumption))) ?_)) ?_
    intro k hphi
    obtain ⟨hk, hv⟩ := hphi
    refine St.seq ?_
    refine St.seq ?_
    refine St.rg ?_
    refine St.ev _ (Ev.move (Opd.mk rfl)) rfl ?_
    refine St.ev _ (Ev.move (Opd.mk rfl)) rfl ?_
    refine St.ev _ (Ev.lensl (Opd.mk rfl) Tryz.underlying22) rfl ?_
    refine St.ev _ (Ev.lss (Opd.mk rfl) (Opd.mk rfl)) rfl ?_
    refine St.nil ?_
    refine St.then_normal ?_
    refine St.cond _ rfl (fun h12 => ?_) (fun h12 => ?_)
    · skip
      try simp only [Bool.and_true, Bool.true_and, decide_eq_true_eq, decide_eq_false_iff_not, Bool.and_eq_true, Bool.or_eq_true, Bool.and_eq_false_iff, Bool.or_eq_false_iff, Bool.not_eq_true', Bool.not_eq_false', beq_iff_eq, beq_eq_false_iff_ne, Int.not_lt, Int.not_le] at h12
      obtain ⟨s, hs⟩ := some_of_lt (show k < l.length by omega)
      obtain ⟨u, hu⟩ := some_of_lt (show k < vs.length by omega)
      refine St.ptw (vs := vs) k hu hs ?_
      refine St.skip ?_
      refine St.then_normal ?_
      refine St.seq ?_
      refine St.block ?_
      refine St.seq ?_
      refine St.rg ?_
      refine St.ev _ (Ev.move (Opd.mk rfl)) rfl ?_
      refine St.ev _ (Ev.move (Opd.mk rfl)) rfl ?_
      refine St.ev _ (Ev.idxaddr (k := k) (Opd.mk rfl) (Opd.mk rfl) Tryz.underlying22 sz23 (by omega) (by omega)) rfl ?_
      refine St.ev _ (Ev.ld1 (Opd.mk rfl) hu Tryz.underlying23 trivial rfl) rfl ?_
      refine St.ev _ (Ev.move (Opd.mk rfl)) rfl ?_
      refine St.ev _ (Ev.call (SentenceFault_spec u.1 s k) cb32 (Opds.cons (Opd.mk rfl) (Opds.cons (Opd.mk rfl) Opds.nil))) rfl ?_
      refine St.alloc zc30 rfl (fun b4 => ?_)
      refine St.storeA (Opd.mk rfl) (Opd.mk rfl) sz30 (by first | simp only [List.length_cons, List.length_nil] | rfl) rfl ?_
      refine St.nil ?_
      refine St.then_normal ?_
      refine St.seq ?_
      refine St.rg ?_
      refine St.ev _ (Ev.fldb0 (Opd.mk rfl) fo30_0) rfl ?_
      refine St.ev _ (Ev.ldb (Opd.mk rfl) Tryz.underlying3 trivial (by rfl)) rfl ?_
      refine St.ev _ (Ev.neq (Opd.mk rfl) (Opd.mk rfl)) rfl ?_
      refine St.nil ?_
      refine St.then_normal ?_
      refine St.cond _ rfl (fun h23 => ?_) (fun h23 => ?_)
      · skip
        try simp only [Bool.and_true, Bool.true_and, decide_eq_true_eq, decide_eq_false_iff_not, Bool.and_eq_true, Bool.or_eq_true, Bool.and_eq_false_iff, Bool.or_eq_false_iff, Bool.not_eq_true', Bool.not_eq_false', beq_iff_eq, beq_eq_false_iff_ne, Int.not_lt, Int.not_le] at h23
        refine St.seq ?_
        refine St.rg ?_
        refine St.ev _ (Ev.ldbA (Opd.mk rfl) Tryz.underlying30 trivial (by exact sz30)) rfl ?_
        refine St.storeA (Opd.mk rfl) (Opd.mk rfl) sz30 (by first | simp only [List.length_cons, List.length_nil] | rfl) rfl ?_
        refine St.nil ?_
        refine St.then_normal ?_
        refine St.rett ?_
        refine St.in_ret ?_
        refine St.then_ret ?_
        refine St.then_ret ?_
        refine St.in_ret ?_
        refine St.then_ret ?_
        refine St.rets [_] [] Tryz.results12 ⟨⟨_, _, _, _, rfl, InB.mem, .inl ⟨⟨_, Tryz.underlying30⟩, sz30, rfl⟩⟩, trivial⟩ ?_ (fun _ hw => hw.sub)
        exact fe (by rw [hv, conFrom_step hs, if_pos h23])
      · skip
        try simp only [Bool.and_true, Bool.true_and, decide_eq_true_eq, decide_eq_false_iff_not, Bool.and_eq_true, Bool.or_eq_true, Bool.and_eq_false_iff, Bool.or_eq_false_iff, Bool.not_eq_true', Bool.not_eq_false', beq_iff_eq, beq_eq_false_iff_ne, Int.not_lt, Int.not_le] at h23
        refine St.skip ?_
        refine St.in_normal ?_
        refine St.then_normal ?_
        refine St.rg ?_
        refine St.ev _ (Ev.move (Opd.mk rfl)) rfl ?_
        refine St.ev _ (Ev.add (Opd.mk rfl) (Opd.mk rfl) (by omega)) rfl ?_
        refine St.ev _ (Ev.assign (Opd.mk rfl)) rfl ?_
        refine St.nil ?_
        refine St.then_normal ?_
        refine St.againS (k + 1) ⟨by omega, by rw [hv, conFrom_step hs, if_neg (by omega)]⟩ (by first | omega | (dsimp only; omega)) (by repeat (first | exact Sub.nil | refine Sub.cons (by first | rfl | exact congrArg (fun z => some (iv z)) (by first | omega | (dsimp only; omega)) | exact congrArg (fun z => some (Value.bool z)) (by first | assumption | exact Eq.symm (by assumption))) ?_)) (fun _ hw => hw.sub)
    · skip
      try simp only [Bool.and_true, Bool.true_and, decide_eq_true_eq, decide_eq_false_iff_not, Bool.and_eq_true, Bool.or_eq_true, Bool.and_eq_false_iff, Bool.or_eq_false_iff, Bool.not_eq_true', Bool.not_eq_false', beq_iff_eq, beq_eq_false_iff_ne, Int.not_lt, Int.not_le] at h12
      refine St.exit ?_
      refine St.then_exit ?_
      refine St.then_exit ?_
      refine St.in_hit ?_
      refine St.then_normal ?_
      refine St.seq ?_
      refine St.rg ?_
      refine St.ev _ (Ev.build (ps := []) (Opds.nil) (fun w => bld30_  w)) rfl ?_
      refine St.storeA (Opd.mk rfl) (Opd.mk rfl) sz30 (by first | simp only [List.length_cons, List.length_nil] | rfl) rfl ?_
      refine St.nil ?_
      refine St.then_normal ?_
      refine St.rett ?_
      refine St.rets [_] [] Tryz.results12 ⟨⟨_, _, _, _, rfl, InB.mem, .inl ⟨⟨_, Tryz.underlying30⟩, sz30, rfl⟩⟩, trivial⟩ ?_ (fun _ hw => hw.sub)
      exact fe (by rw [hv, List.drop_of_length_le (by omega)]; rfl)

theorem PartFault_spec (v0 : Value) (s : List Str) : FnV Tryz.prog 15 #[v0] [sl strR v0 s] (fv (partF s)) := by
  refine FnV.body1 (args := [v0]) 28 Tryz.func15 rfl Tryz.ntmps15 rfl (fun c => ?_)
  refine St.seq ?_
  refine St.wf v0 (fun hwf hlen => ?_)
  refine St.rg ?_
  refine St.alloc zc30 rfl (fun b2 => ?_)
  refine St.nil ?_
  refine St.then_normal ?_
  refine St.seq ?_
  refine St.seq ?_
  refine St.rg ?_
  refine St.ev _ (Ev.move (Opd.mk rfl)) rfl ?_
  refine St.ev _ (Ev.lensl (Opd.mk rfl) Tryz.underlying23) rfl ?_
  refine St.ev _ (Ev.eql (Opd.mk rfl) (Opd.mk rfl)) rfl ?_
  refine St.ev _ (Ev.move (Opd.mk rfl)) rfl ?_
  refine St.gf _ rfl rfl (fun hg => Ev.move (Opd.mk rfl)) rfl ?_
  refine St.gf _ rfl rfl (fun hg => Ev.lensl (Opd.gv rfl hg) Tryz.underlying23) rfl ?_
  refine St.gf _ rfl rfl (fun hg => Ev.gtr (Opd.gv rfl hg) (Opd.mk rfl)) rfl ?_
  refine St.ev _ (Ev.or (Opd.mk rfl) (fun hp => Opd.gv rfl hp)) rfl ?_
  refine St.nil ?_
  refine St.then_normal ?_
  refine St.cond _ rfl (fun h11 => ?_) (fun h11 => ?_)
  · skip
    try simp only [Bool.and_true, Bool.true_and, decide_eq_true_eq, decide_eq_false_iff_not, Bool.and_eq_true, Bool.or_eq_true, Bool.and_eq_false_iff, Bool.or_eq_false_iff, Bool.not_eq_true', Bool.not_eq_false', beq_iff_eq, beq_eq_false_iff_ne, Int.not_lt, Int.not_le] at h11
    refine St.seq ?_
    refine St.rg ?_
    refine St.ev _ (Ev.build (ps := [(0, (Operand.const (Value.int IntKind.i64 9))), (1, (Operand.const (Value.int IntKind.i64 (-1))))]) (Opds.cons (Opd.mk rfl) (Opds.cons (Opd.mk rfl) Opds.nil)) (fun w => bld30_0_1 rfl rfl w)) rfl ?_
    refine St.storeA (Opd.mk rfl) (Opd.mk rfl) sz30 (by first | simp only [List.length_cons, List.length_nil] | rfl) rfl ?_
    refine St.nil ?_
    refine St.then_normal ?_
    refine St.rett ?_
    refine St.then_ret ?_
    refine St.rets [_] [] Tryz.results15 ⟨⟨_, _, _, _, rfl, InB.mem, .inl ⟨⟨_, Tryz.underlying30⟩, sz30, rfl⟩⟩, trivial⟩ ?_ (fun _ hw => hw.sub)
    exact fe (by unfold partF; rw [if_pos (by omega)])
  · skip
    try simp only [Bool.and_true, Bool.true_and, decide_eq_true_eq, decide_eq_false_iff_not, Bool.and_eq_true, Bool.or_eq_true, Bool.and_eq_false_iff, Bool.or_eq_false_iff, Bool.not_eq_true', Bool.not_eq_false', beq_iff_eq, beq_eq_false_iff_ne, Int.not_lt, Int.not_le] at h11
    refine St.skip ?_
    refine St.then_normal ?_
    refine St.seq ?_
    refine St.seq ?_
    refine St.rg ?_
    refine St.ev _ (Ev.assign (Opd.mk rfl)) rfl ?_
    refine St.nil ?_
    refine St.then_normal ?_
    refine St.block ?_
    refine St.loopS (ι := Nat) (fun k T => (3, iv k) :: T) (fun k => k ≤ s.length ∧ partF s = partFrom k (s.drop k)) (fun k => s.length - k) 0 (Keep.cons 0 rfl (Keep.cons 2 rfl Keep.nil)) ⟨Nat.zero_le _, by unfold partF; rw [if_neg (by omega)]; rfl⟩ (by repeat (first | exact Sub.nil | refine Sub.cons (by first | rfl | exact congrArg (fun z => some (iv z)) (by first | omega | (dsimp only; omega)) | exact congrArg (fun z => some (Value.bool z)) (by first | assumption | exact Eq.symm (by assumption))) ?_)) ?_
    intro k hphi
    obtain ⟨hk, hv⟩ := hphi
    refine St.seq ?_
    refine St.seq ?_
    refine St.rg ?_
    refine St.ev _ (Ev.move (Opd.mk rfl)) rfl ?_
    refine St.ev _ (Ev.move (Opd.mk rfl)) rfl ?_
    refine St.ev _ (Ev.lensl (Opd.mk rfl) Tryz.underlying23) rfl ?_
    refine St.ev _ (Ev.lss (Opd.mk rfl) (Opd.mk rfl)) rfl ?_
    refine St.nil ?_
    refine St.then_normal ?_
    refine St.cond _ rfl (fun h16 => ?_) (fun h16 => ?_)
    · skip
      try simp only [Bool.and_true, Bool.true_and, decide_eq_true_eq, decide_eq_false_iff_not, Bool.and_eq_true, Bool.or_eq_true, Bool.and_eq_false_iff, Bool.or_eq_false_iff, Bool.not_eq_true', Bool.not_eq_false', beq_iff_eq, beq_eq_false_iff_ne, Int.not_lt, Int.not_le] at h16
      obtain ⟨w, hw⟩ := some_of_lt (show k < s.length by omega)
      have hwm := List.mem_of_getElem? hw
      refine St.skip ?_
      refine St.then_normal ?_
      refine St.seq ?_
      refine St.block ?_
      refine St.seq ?_
      refine St.rg ?_
      refine St.ev _ (Ev.move (Opd.mk rfl)) rfl ?_
      refine St.ev _ (Ev.move (Opd.mk rfl)) rfl ?_
      refine St.ev _ (Ev.idxaddr (k := k) (Opd.mk rfl) (Opd.mk rfl) Tryz.underlying23 sz9 (by omega) (by omega)) rfl ?_
      refine St.ev _ (Ev.ld1 (Opd.mk rfl) hw Tryz.underlying9 trivial rfl) rfl ?_
      refine St.ev _ (Ev.call (IsWord_spec w (wlen (hwf w hwm))) cb21 (Opds.cons (Opd.mk rfl) Opds.nil)) rfl ?_
      refine St.ev _ (Ev.not (Opd.mk rfl)) rfl ?_
      refine St.nil ?_
      refine St.then_normal ?_
      refine St.cond _ rfl (fun h24 => ?_) (fun h24 => ?_)
      · skip
        simp only [Bool.not_eq_true', Bool.not_eq_false'] at h24
        refine St.seq ?_
        refine St.rg ?_
        refine St.ev _ (Ev.move (Opd.mk rfl)) rfl ?_
        refine St.ev _ (Ev.build (ps := [(0, (Operand.const (Value.int IntKind.i64 10))), (1, (Operand.tmp 25))]) (Opds.cons (Opd.mk rfl) (Opds.cons (Opd.mk rfl) Opds.nil)) (fun w => bld30_0_1 rfl rfl w)) rfl ?_
        refine St.storeA (Opd.mk rfl) (Opd.mk rfl) sz30 (by first | simp only [List.length_cons, List.length_nil] | rfl) rfl ?_
        refine St.nil ?_
        refine St.then_normal ?_
        refine St.rett ?_
        refine St.in_ret ?_
        refine St.then_ret ?_
        refine St.then_ret ?_
        refine St.in_ret ?_
        refine St.then_ret ?_
        refine St.rets [_] [] Tryz.results15 ⟨⟨_, _, _, _, rfl, InB.mem, .inl ⟨⟨_, Tryz.underlying30⟩, sz30, rfl⟩⟩, trivial⟩ ?_ (fun _ hw => hw.sub)
        exact fe (by rw [hv, partFrom_step hw, if_neg (by rw [h24]; decide)])
      · skip
        simp only [Bool.not_eq_true', Bool.not_eq_false'] at h24
        refine St.skip ?_
        refine St.in_normal ?_
        refine St.then_normal ?_
        refine St.rg ?_
        refine St.ev _ (Ev.move (Opd.mk rfl)) rfl ?_
        refine St.ev _ (Ev.add (Opd.mk rfl) (Opd.mk rfl) (by omega)) rfl ?_
        refine St.ev _ (Ev.assign (Opd.mk rfl)) rfl ?_
        refine St.nil ?_
        refine St.then_normal ?_
        refine St.againS (k + 1) ⟨by omega, by rw [hv, partFrom_step hw, if_pos h24]⟩ (by first | omega | (dsimp only; omega)) (by repeat (first | exact Sub.nil | refine Sub.cons (by first | rfl | exact congrArg (fun z => some (iv z)) (by first | omega | (dsimp only; omega)) | exact congrArg (fun z => some (Value.bool z)) (by first | assumption | exact Eq.symm (by assumption))) ?_)) (fun _ hw => hw.sub)
    · skip
      try simp only [Bool.and_true, Bool.true_and, decide_eq_true_eq, decide_eq_false_iff_not, Bool.and_eq_true, Bool.or_eq_true, Bool.and_eq_false_iff, Bool.or_eq_false_iff, Bool.not_eq_true', Bool.not_eq_false', beq_iff_eq, beq_eq_false_iff_ne, Int.not_lt, Int.not_le] at h16
      refine St.exit ?_
      refine St.then_exit ?_
      refine St.then_exit ?_
      refine St.in_hit ?_
      refine St.then_normal ?_
      refine St.seq ?_
      refine St.rg ?_
      refine St.ev _ (Ev.build (ps := []) (Opds.nil) (fun w => bld30_  w)) rfl ?_
      refine St.storeA (Opd.mk rfl) (Opd.mk rfl) sz30 (by first | simp only [List.length_cons, List.length_nil] | rfl) rfl ?_
      refine St.nil ?_
      refine St.then_normal ?_
      refine St.rett ?_
      refine St.rets [_] [] Tryz.results15 ⟨⟨_, _, _, _, rfl, InB.mem, .inl ⟨⟨_, Tryz.underlying30⟩, sz30, rfl⟩⟩, trivial⟩ ?_ (fun _ hw => hw.sub)
      exact fe (by rw [hv, List.drop_of_length_le (by omega)]; rfl)

theorem PartAt_spec (v0 v2 : Value) (s p : List Str) (a : Nat) (ha : a ≤ s.length) (hsz : s.length ≤ 1000000 ∧ p.length ≤ 1000000) : FnV Tryz.prog 25 #[v0, iv a, v2] [sl strR v0 s, sl strR v2 p] (.bool (standsAt s a p)) := by
  refine FnV.body2 (args := [v0, iv a, v2]) 32 Tryz.func25 rfl Tryz.ntmps25 rfl (fun c => ?_)
  refine St.seq ?_
  refine St.rg ?_
  refine St.ev _ (Ev.assign (Opd.mk rfl)) rfl ?_
  refine St.nil ?_
  refine St.then_normal ?_
  refine St.seq ?_
  refine St.seq ?_
  refine St.rg ?_
  refine St.ev _ (Ev.move (Opd.mk rfl)) rfl ?_
  refine St.ev _ (Ev.move (Opd.mk rfl)) rfl ?_
  refine St.ev _ (Ev.lensl (Opd.mk rfl) Tryz.underlying23) rfl ?_
  refine St.ev _ (Ev.add (Opd.mk rfl) (Opd.mk rfl) (by omega)) rfl ?_
  refine St.ev _ (Ev.move (Opd.mk rfl)) rfl ?_
  refine St.ev _ (Ev.lensl (Opd.mk rfl) Tryz.underlying23) rfl ?_
  refine St.ev _ (Ev.gtr (Opd.mk rfl) (Opd.mk rfl)) rfl ?_
  refine St.nil ?_
  refine St.then_normal ?_
  refine St.cond _ rfl (fun h14 => ?_) (fun h14 => ?_)
  · skip
    try simp only [Bool.and_true, Bool.true_and, decide_eq_true_eq, decide_eq_false_iff_not, Bool.and_eq_true, Bool.or_eq_true, Bool.and_eq_false_iff, Bool.or_eq_false_iff, Bool.not_eq_true', Bool.not_eq_false', beq_iff_eq, beq_eq_false_iff_ne, Int.not_lt, Int.not_le] at h14
    refine St.seq ?_
    refine St.rg ?_
    refine St.ev _ (Ev.assign (Opd.mk rfl)) rfl ?_
    refine St.nil ?_
    refine St.then_normal ?_
    refine St.rett ?_
    refine St.then_ret ?_
    refine St.rets [_] [] Tryz.results25 ⟨rfl, trivial⟩ ?_ (fun _ hw => hw.sub)
    exact be (by rw [eq_comm, ← Bool.not_eq_true, standsAt_iff ha]; rintro ⟨q, _⟩; omega)
  · skip
    try simp only [Bool.and_true, Bool.true_and, decide_eq_true_eq, decide_eq_false_iff_not, Bool.and_eq_true, Bool.or_eq_true, Bool.and_eq_false_iff, Bool.or_eq_false_iff, Bool.not_eq_true', Bool.not_eq_false', beq_iff_eq, beq_eq_false_iff_ne, Int.not_lt, Int.not_le] at h14
    refine St.skip ?_
    refine St.then_normal ?_
    refine St.seq ?_
    refine St.seq ?_
    refine St.rg ?_
    refine St.ev _ (Ev.assign (Opd.mk rfl)) rfl ?_
    refine St.nil ?_
    refine St.then_normal ?_
    refine St.block ?_
    refine St.loopS (ι := Nat) (fun k T => (7, iv k) :: T) (fun k => k ≤ p.length ∧ ∀ j, j < k → s[a + j]? = p[j]?) (fun k => p.length - k) 0 (Keep.cons 0 rfl (Keep.cons 1 rfl (Keep.cons 2 rfl Keep.nil))) ⟨Nat.zero_le _, fun j hj => absurd hj (Nat.not_lt_zero j)⟩ (by repeat (first | exact Sub.nil | refine Sub.cons (by first | rfl | exact congrArg (fun z => some (iv z)) (by first | omega | (dsimp only; omega)) | exact congrArg (fun z => some (Value.bool z)) (by first | assumption | exact Eq.symm (by assumption))) ?_)) ?_
    intro k hphi
    obtain ⟨hk, hv⟩ := hphi
    refine St.seq ?_
    refine St.seq ?_
    refine St.rg ?_
    refine St.ev _ (Ev.move (Opd.mk rfl)) rfl ?_
    refine St.ev _ (Ev.move (Opd.mk rfl)) rfl ?_
    refine St.ev _ (Ev.lensl (Opd.mk rfl) Tryz.underlying23) rfl ?_
    refine St.ev _ (Ev.lss (Opd.mk rfl) (Opd.mk rfl)) rfl ?_
    refine St.nil ?_
    refine St.then_normal ?_
    refine St.cond _ rfl (fun h18 => ?_) (fun h18 => ?_)
    · skip
      try simp only [Bool.and_true, Bool.true_and, decide_eq_true_eq, decide_eq_false_iff_not, Bool.and_eq_true, Bool.or_eq_true, Bool.and_eq_false_iff, Bool.or_eq_false_iff, Bool.not_eq_true', Bool.not_eq_false', beq_iff_eq, beq_eq_false_iff_ne, Int.not_lt, Int.not_le] at h18
      obtain ⟨x, hx⟩ := some_of_lt (show a + k < s.length by omega)
      obtain ⟨y, hy⟩ := some_of_lt (show k < p.length by omega)
      refine St.skip ?_
      refine St.then_normal ?_
      refine St.seq ?_
      refine St.block ?_
      refine St.seq ?_
      refine St.rq mixed (by kernel_rfl) (Mm.drawn _ _) ?_
      refine Sq.ev _ (Ev.move (Opd.mk rfl)) rfl ?_
      refine Sq.ev _ (Ev.move (Opd.mk rfl)) rfl ?_
      refine Sq.ev _ (Ev.move (Opd.mk rfl)) rfl ?_
      refine Sq.ev _ (Ev.add (Opd.mk rfl) (Opd.mk rfl) (by omega)) rfl ?_
      refine Sq.ev _ (Ev.idxaddr (k := (a + k)) (Opd.mk rfl) (Opd.mk rfl) Tryz.underlying23 sz9 (by omega) (by omega)) rfl ?_
      refine Sq.ev _ (Ev.ld1 (Opd.mk rfl) hx Tryz.underlying9 trivial rfl) rfl ?_
      refine Sq.ev _ (Ev.move (Opd.mk rfl)) rfl ?_
      refine Sq.ev _ (Ev.move (Opd.mk rfl)) rfl ?_
      refine Sq.ev _ (Ev.idxaddr (k := k) (Opd.mk rfl) (Opd.mk rfl) Tryz.underlying23 sz9 (by omega) (by omega)) rfl ?_
      refine Sq.ev _ (Ev.ld1 (Opd.mk rfl) hy Tryz.underlying9 trivial rfl) rfl ?_
      refine Sq.ev _ (Ev.strne (Opd.mk rfl) (Opd.mk rfl)) rfl ?_
      refine Sq.nil ?_
      refine St.then_normal ?_
      refine St.cond _ rfl (fun h31 => ?_) (fun h31 => ?_)
      · skip
        skip
        refine St.seq ?_
        refine St.rg ?_
        refine St.ev _ (Ev.assign (Opd.mk rfl)) rfl ?_
        refine St.nil ?_
        refine St.then_normal ?_
        refine St.rett ?_
        refine St.in_ret ?_
        refine St.then_ret ?_
        refine St.then_ret ?_
        refine St.in_ret ?_
        refine St.then_ret ?_
        refine St.rets [_] [] Tryz.results25 ⟨rfl, trivial⟩ ?_ (fun _ hw => hw.sub)
        exact be (by rw [eq_comm, ← Bool.not_eq_true, standsAt_iff ha]; rintro ⟨_, q⟩; have q := q k (by omega); rw [hx, hy] at q; simp only [Option.some.injEq] at q; rw [q] at h31; simp at h31)
      · skip
        skip
        refine St.skip ?_
        refine St.in_normal ?_
        refine St.then_normal ?_
        refine St.rg ?_
        refine St.ev _ (Ev.move (Opd.mk rfl)) rfl ?_
        refine St.ev _ (Ev.add (Opd.mk rfl) (Opd.mk rfl) (by omega)) rfl ?_
        refine St.ev _ (Ev.assign (Opd.mk rfl)) rfl ?_
        refine St.nil ?_
        refine St.then_normal ?_
        refine St.againS (k + 1) ⟨by omega, fun j hj => by rcases Nat.lt_or_ge j k with q | q; exact hv j q; obtain rfl : j = k := (by omega); rw [hx, hy]; simpa using h31⟩ (by first | omega | (dsimp only; omega)) (by repeat (first | exact Sub.nil | refine Sub.cons (by first | rfl | exact congrArg (fun z => some (iv z)) (by first | omega | (dsimp only; omega)) | exact congrArg (fun z => some (Value.bool z)) (by first | assumption | exact Eq.symm (by assumption))) ?_)) (fun _ hw => hw.sub)
    · skip
      try simp only [Bool.and_true, Bool.true_and, decide_eq_true_eq, decide_eq_false_iff_not, Bool.and_eq_true, Bool.or_eq_true, Bool.and_eq_false_iff, Bool.or_eq_false_iff, Bool.not_eq_true', Bool.not_eq_false', beq_iff_eq, beq_eq_false_iff_ne, Int.not_lt, Int.not_le] at h18
      refine St.exit ?_
      refine St.then_exit ?_
      refine St.then_exit ?_
      refine St.in_hit ?_
      refine St.then_normal ?_
      refine St.seq ?_
      refine St.rg ?_
      refine St.ev _ (Ev.assign (Opd.mk rfl)) rfl ?_
      refine St.nil ?_
      refine St.then_normal ?_
      refine St.rett ?_
      refine St.rets [_] [] Tryz.results25 ⟨rfl, trivial⟩ ?_ (fun _ hw => hw.sub)
      exact be (by rw [eq_comm, standsAt_iff ha]; exact ⟨by omega, fun j hj => hv j (by omega)⟩)

theorem sameWords_spec (v0 v1 : Value) (a b : List Str) : FnV Tryz.prog 18 #[v0, v1] [sl strR v0 a, sl strR v1 b] (.bool (decide (a = b))) := by
  refine FnV.body2 (args := [v0, v1]) 26 Tryz.func18 rfl Tryz.ntmps18 rfl (fun c => ?_)
  refine St.seq ?_
  refine St.wf v0 (fun hwf0 hlen0 => ?_)
  refine St.wf v1 (fun hwf1 hlen1 => ?_)
  refine St.rg ?_
  refine St.ev _ (Ev.assign (Opd.mk rfl)) rfl ?_
  refine St.nil ?_
  refine St.then_normal ?_
  refine St.seq ?_
  refine St.seq ?_
  refine St.rg ?_
  refine St.ev _ (Ev.move (Opd.mk rfl)) rfl ?_
  refine St.ev _ (Ev.lensl (Opd.mk rfl) Tryz.underlying23) rfl ?_
  refine St.ev _ (Ev.move (Opd.mk rfl)) rfl ?_
  refine St.ev _ (Ev.lensl (Opd.mk rfl) Tryz.underlying23) rfl ?_
  refine St.ev _ (Ev.neq (Opd.mk rfl) (Opd.mk rfl)) rfl ?_
  refine St.nil ?_
  refine St.then_normal ?_
  refine St.cond _ rfl (fun h10 => ?_) (fun h10 => ?_)
  · skip
    try simp only [Bool.and_true, Bool.true_and, decide_eq_true_eq, decide_eq_false_iff_not, Bool.and_eq_true, Bool.or_eq_true, Bool.and_eq_false_iff, Bool.or_eq_false_iff, Bool.not_eq_true', Bool.not_eq_false', beq_iff_eq, beq_eq_false_iff_ne, Int.not_lt, Int.not_le] at h10
    refine St.seq ?_
    refine St.rg ?_
    refine St.ev _ (Ev.assign (Opd.mk rfl)) rfl ?_
    refine St.nil ?_
    refine St.then_normal ?_
    refine St.rett ?_
    refine St.then_ret ?_
    refine St.rets [_] [] Tryz.results18 ⟨rfl, trivial⟩ ?_ (fun _ hw => hw.sub)
    exact be (by rw [eq_comm, decide_eq_false_iff_not]; rintro rfl; omega)
  · skip
    try simp only [Bool.and_true, Bool.true_and, decide_eq_true_eq, decide_eq_false_iff_not, Bool.and_eq_true, Bool.or_eq_true, Bool.and_eq_false_iff, Bool.or_eq_false_iff, Bool.not_eq_true', Bool.not_eq_false', beq_iff_eq, beq_eq_false_iff_ne, Int.not_lt, Int.not_le] at h10
    refine St.skip ?_
    refine St.then_normal ?_
    refine St.seq ?_
    refine St.seq ?_
    refine St.rg ?_
    refine St.ev _ (Ev.assign (Opd.mk rfl)) rfl ?_
    refine St.nil ?_
    refine St.then_normal ?_
    refine St.block ?_
    refine St.loopS (ι := Nat) (fun k T => (5, iv k) :: T) (fun k => k ≤ a.length ∧ a.take k = b.take k) (fun k => a.length - k) 0 (Keep.cons 0 rfl (Keep.cons 1 rfl Keep.nil)) ⟨Nat.zero_le _, rfl⟩ (by repeat (first | exact Sub.nil | refine Sub.cons (by first | rfl | exact congrArg (fun z => some (iv z)) (by first | omega | (dsimp only; omega)) | exact congrArg (fun z => some (Value.bool z)) (by first | assumption | exact Eq.symm (by assumption))) ?_)) ?_
    intro k hphi
    obtain ⟨hk, hv⟩ := hphi
    refine St.seq ?_
    refine St.seq ?_
    refine St.rg ?_
    refine St.ev _ (Ev.move (Opd.mk rfl)) rfl ?_
    refine St.ev _ (Ev.move (Opd.mk rfl)) rfl ?_
    refine St.ev _ (Ev.lensl (Opd.mk rfl) Tryz.underlying23) rfl ?_
    refine St.ev _ (Ev.lss (Opd.mk rfl) (Opd.mk rfl)) rfl ?_
    refine St.nil ?_
    refine St.then_normal ?_
    refine St.cond _ rfl (fun h14 => ?_) (fun h14 => ?_)
    · skip
      try simp only [Bool.and_true, Bool.true_and, decide_eq_true_eq, decide_eq_false_iff_not, Bool.and_eq_true, Bool.or_eq_true, Bool.and_eq_false_iff, Bool.or_eq_false_iff, Bool.not_eq_true', Bool.not_eq_false', beq_iff_eq, beq_eq_false_iff_ne, Int.not_lt, Int.not_le] at h14
      obtain ⟨x, hx⟩ := some_of_lt (show k < a.length by omega)
      obtain ⟨y, hy⟩ := some_of_lt (show k < b.length by omega)
      refine St.skip ?_
      refine St.then_normal ?_
      refine St.seq ?_
      refine St.block ?_
      refine St.seq ?_
      refine St.rq mixed (by kernel_rfl) (Mm.drawn _ _) ?_
      refine Sq.ev _ (Ev.move (Opd.mk rfl)) rfl ?_
      refine Sq.ev _ (Ev.move (Opd.mk rfl)) rfl ?_
      refine Sq.ev _ (Ev.idxaddr  (Opd.mk rfl) (Opd.mk rfl) Tryz.underlying23 sz9 rfl (by omega)) rfl ?_
      refine Sq.ev _ (Ev.ld1 (Opd.mk rfl) hx Tryz.underlying9 trivial rfl) rfl ?_
      refine Sq.ev _ (Ev.move (Opd.mk rfl)) rfl ?_
      refine Sq.ev _ (Ev.move (Opd.mk rfl)) rfl ?_
      refine Sq.ev _ (Ev.idxaddr  (Opd.mk rfl) (Opd.mk rfl) Tryz.underlying23 sz9 rfl (by omega)) rfl ?_
      refine Sq.ev _ (Ev.ld1 (Opd.mk rfl) hy Tryz.underlying9 trivial rfl) rfl ?_
      refine Sq.ev _ (Ev.strne (Opd.mk rfl) (Opd.mk rfl)) rfl ?_
      refine Sq.nil ?_
      refine St.then_normal ?_
      refine St.cond _ rfl (fun h25 => ?_) (fun h25 => ?_)
      · skip
        skip
        refine St.seq ?_
        refine St.rg ?_
        refine St.ev _ (Ev.assign (Opd.mk rfl)) rfl ?_
        refine St.nil ?_
        refine St.then_normal ?_
        refine St.rett ?_
        refine St.in_ret ?_
        refine St.then_ret ?_
        refine St.then_ret ?_
        refine St.in_ret ?_
        refine St.then_ret ?_
        refine St.rets [_] [] Tryz.results18 ⟨rfl, trivial⟩ ?_ (fun _ hw => hw.sub)
        exact be (by rw [eq_comm, decide_eq_false_iff_not]; rintro rfl; rw [hx] at hy; simp only [Option.some.injEq] at hy; simp [hy] at h25)
      · skip
        skip
        refine St.skip ?_
        refine St.in_normal ?_
        refine St.then_normal ?_
        refine St.rg ?_
        refine St.ev _ (Ev.move (Opd.mk rfl)) rfl ?_
        refine St.ev _ (Ev.add (Opd.mk rfl) (Opd.mk rfl) (by omega)) rfl ?_
        refine St.ev _ (Ev.assign (Opd.mk rfl)) rfl ?_
        refine St.nil ?_
        refine St.then_normal ?_
        refine St.againS (k + 1) ⟨by omega, by rw [take_of_some hx, take_of_some hy, hv, show x = y by simpa using h25]⟩ (by first | omega | (dsimp only; omega)) (by repeat (first | exact Sub.nil | refine Sub.cons (by first | rfl | exact congrArg (fun z => some (iv z)) (by first | omega | (dsimp only; omega)) | exact congrArg (fun z => some (Value.bool z)) (by first | assumption | exact Eq.symm (by assumption))) ?_)) (fun _ hw => hw.sub)
    · skip
      try simp only [Bool.and_true, Bool.true_and, decide_eq_true_eq, decide_eq_false_iff_not, Bool.and_eq_true, Bool.or_eq_true, Bool.and_eq_false_iff, Bool.or_eq_false_iff, Bool.not_eq_true', Bool.not_eq_false', beq_iff_eq, beq_eq_false_iff_ne, Int.not_lt, Int.not_le] at h14
      refine St.exit ?_
      refine St.then_exit ?_
      refine St.then_exit ?_
      refine St.in_hit ?_
      refine St.then_normal ?_
      refine St.seq ?_
      refine St.rg ?_
      refine St.ev _ (Ev.assign (Opd.mk rfl)) rfl ?_
      refine St.nil ?_
      refine St.then_normal ?_
      refine St.rett ?_
      refine St.rets [_] [] Tryz.results18 ⟨rfl, trivial⟩ ?_ (fun _ hw => hw.sub)
      exact be (by rw [eq_comm, decide_eq_true_eq]; rw [List.take_of_length_le (by omega), List.take_of_length_le (by omega)] at hv; exact hv)

theorem EqualW_spec (v0 v1 : Value) (a b : List Str) : FnV Tryz.prog 37 #[v0, v1] [sl strR v0 a, sl strR v1 b] (.bool (decide (a = b))) := by
  refine FnV.body2 (args := [v0, v1]) 26 Tryz.func37 rfl Tryz.ntmps37 rfl (fun c => ?_)
  refine St.seq ?_
  refine St.wf v0 (fun hwf0 hlen0 => ?_)
  refine St.wf v1 (fun hwf1 hlen1 => ?_)
  refine St.rg ?_
  refine St.ev _ (Ev.assign (Opd.mk rfl)) rfl ?_
  refine St.nil ?_
  refine St.then_normal ?_
  refine St.seq ?_
  refine St.seq ?_
  refine St.rg ?_
  refine St.ev _ (Ev.move (Opd.mk rfl)) rfl ?_
  refine St.ev _ (Ev.lensl (Opd.mk rfl) Tryz.underlying23) rfl ?_
  refine St.ev _ (Ev.move (Opd.mk rfl)) rfl ?_
  refine St.ev _ (Ev.lensl (Opd.mk rfl) Tryz.underlying23) rfl ?_
  refine St.ev _ (Ev.neq (Opd.mk rfl) (Opd.mk rfl)) rfl ?_
  refine St.nil ?_
  refine St.then_normal ?_
  refine St.cond _ rfl (fun h10 => ?_) (fun h10 => ?_)
  · skip
    try simp only [Bool.and_true, Bool.true_and, decide_eq_true_eq, decide_eq_false_iff_not, Bool.and_eq_true, Bool.or_eq_true, Bool.and_eq_false_iff, Bool.or_eq_false_iff, Bool.not_eq_true', Bool.not_eq_false', beq_iff_eq, beq_eq_false_iff_ne, Int.not_lt, Int.not_le] at h10
    refine St.seq ?_
    refine St.rg ?_
    refine St.ev _ (Ev.assign (Opd.mk rfl)) rfl ?_
    refine St.nil ?_
    refine St.then_normal ?_
    refine St.rett ?_
    refine St.then_ret ?_
    refine St.rets [_] [] Tryz.results37 ⟨rfl, trivial⟩ ?_ (fun _ hw => hw.sub)
    exact be (by rw [eq_comm, decide_eq_false_iff_not]; rintro rfl; omega)
  · skip
    try simp only [Bool.and_true, Bool.true_and, decide_eq_true_eq, decide_eq_false_iff_not, Bool.and_eq_true, Bool.or_eq_true, Bool.and_eq_false_iff, Bool.or_eq_false_iff, Bool.not_eq_true', Bool.not_eq_false', beq_iff_eq, beq_eq_false_iff_ne, Int.not_lt, Int.not_le] at h10
    refine St.skip ?_
    refine St.then_normal ?_
    refine St.seq ?_
    refine St.seq ?_
    refine St.rg ?_
    refine St.ev _ (Ev.move (Opd.mk rfl)) rfl ?_
    refine St.ev _ (Ev.lensl (Opd.mk rfl) Tryz.underlying23) rfl ?_
    refine St.ev _ (Ev.move (Opd.mk rfl)) rfl ?_
    refine St.nil ?_
    refine St.then_normal ?_
    refine St.block ?_
    refine St.loopS (ι := Nat) (fun k T => (13, iv k) :: T) (fun k => k ≤ a.length ∧ a.take k = b.take k) (fun k => a.length - k) 0 (Keep.cons 0 rfl (Keep.cons 1 rfl (Keep.cons 12 rfl Keep.nil))) ⟨Nat.zero_le _, rfl⟩ (by repeat (first | exact Sub.nil | refine Sub.cons (by first | rfl | exact congrArg (fun z => some (iv z)) (by first | omega | (dsimp only; omega)) | exact congrArg (fun z => some (Value.bool z)) (by first | assumption | exact Eq.symm (by assumption))) ?_)) ?_
    intro k hphi
    obtain ⟨hk, hv⟩ := hphi
    refine St.seq ?_
    refine St.rg ?_
    refine St.ev _ (Ev.lss (Opd.mk rfl) (Opd.mk rfl)) rfl ?_
    refine St.nil ?_
    refine St.then_normal ?_
    refine St.seq ?_
    refine St.cond _ rfl (fun h14 => ?_) (fun h14 => ?_)
    · skip
      try simp only [Bool.and_true, Bool.true_and, decide_eq_true_eq, decide_eq_false_iff_not, Bool.and_eq_true, Bool.or_eq_true, Bool.and_eq_false_iff, Bool.or_eq_false_iff, Bool.not_eq_true', Bool.not_eq_false', beq_iff_eq, beq_eq_false_iff_ne, Int.not_lt, Int.not_le] at h14
      obtain ⟨x, hx⟩ := some_of_lt (show k < a.length by omega)
      obtain ⟨y, hy⟩ := some_of_lt (show k < b.length by omega)
      refine St.skip ?_
      refine St.then_normal ?_
      refine St.seq ?_
      refine St.block ?_
      refine St.seq ?_
      refine St.rg ?_
      refine St.ev _ (Ev.move (Opd.mk rfl)) rfl ?_
      refine St.ev _ (Ev.assign (Opd.mk rfl)) rfl ?_
      refine St.nil ?_
      refine St.then_normal ?_
      refine St.seq ?_
      refine St.rq mixed (by kernel_rfl) (Mm.drawn _ _) ?_
      refine Sq.ev _ (Ev.move (Opd.mk rfl)) rfl ?_
      refine Sq.ev _ (Ev.move (Opd.mk rfl)) rfl ?_
      refine Sq.ev _ (Ev.idxaddr  (Opd.mk rfl) (Opd.mk rfl) Tryz.underlying23 sz9 rfl (by omega)) rfl ?_
      refine Sq.ev _ (Ev.ld1 (Opd.mk rfl) hx Tryz.underlying9 trivial rfl) rfl ?_
      refine Sq.ev _ (Ev.move (Opd.mk rfl)) rfl ?_
      refine Sq.ev _ (Ev.move (Opd.mk rfl)) rfl ?_
      refine Sq.ev _ (Ev.idxaddr  (Opd.mk rfl) (Opd.mk rfl) Tryz.underlying23 sz9 rfl (by omega)) rfl ?_
      refine Sq.ev _ (Ev.ld1 (Opd.mk rfl) hy Tryz.underlying9 trivial rfl) rfl ?_
      refine Sq.ev _ (Ev.strne (Opd.mk rfl) (Opd.mk rfl)) rfl ?_
      refine Sq.nil ?_
      refine St.then_normal ?_
      refine St.cond _ rfl (fun h24 => ?_) (fun h24 => ?_)
      · skip
        skip
        refine St.seq ?_
        refine St.rg ?_
        refine St.ev _ (Ev.assign (Opd.mk rfl)) rfl ?_
        refine St.nil ?_
        refine St.then_normal ?_
        refine St.rett ?_
        refine St.in_ret ?_
        refine St.then_ret ?_
        refine St.then_ret ?_
        refine St.in_ret ?_
        refine St.then_ret ?_
        refine St.rets [_] [] Tryz.results37 ⟨rfl, trivial⟩ ?_ (fun _ hw => hw.sub)
        exact be (by rw [eq_comm, decide_eq_false_iff_not]; rintro rfl; rw [hx] at hy; simp only [Option.some.injEq] at hy; simp [hy] at h24)
      · skip
        skip
        refine St.skip ?_
        refine St.in_normal ?_
        refine St.then_normal ?_
        refine St.rg ?_
        refine St.ev _ (Ev.add (Opd.mk rfl) (Opd.mk rfl) (by omega)) rfl ?_
        refine St.ev _ (Ev.move (Opd.mk rfl)) rfl ?_
        refine St.nil ?_
        refine St.then_normal ?_
        refine St.againS (k + 1) ⟨by omega, by rw [take_of_some hx, take_of_some hy, hv, show x = y by simpa using h24]⟩ (by first | omega | (dsimp only; omega)) (by repeat (first | exact Sub.nil | refine Sub.cons (by first | rfl | exact congrArg (fun z => some (iv z)) (by first | omega | (dsimp only; omega)) | exact congrArg (fun z => some (Value.bool z)) (by first | assumption | exact Eq.symm (by assumption))) ?_)) (fun _ hw => hw.sub)
    · skip
      try simp only [Bool.and_true, Bool.true_and, decide_eq_true_eq, decide_eq_false_iff_not, Bool.and_eq_true, Bool.or_eq_true, Bool.and_eq_false_iff, Bool.or_eq_false_iff, Bool.not_eq_true', Bool.not_eq_false', beq_iff_eq, beq_eq_false_iff_ne, Int.not_lt, Int.not_le] at h14
      refine St.exit ?_
      refine St.then_exit ?_
      refine St.then_exit ?_
      refine St.in_hit ?_
      refine St.then_normal ?_
      refine St.seq ?_
      refine St.rg ?_
      refine St.ev _ (Ev.assign (Opd.mk rfl)) rfl ?_
      refine St.nil ?_
      refine St.then_normal ?_
      refine St.rett ?_
      refine St.rets [_] [] Tryz.results37 ⟨rfl, trivial⟩ ?_ (fun _ hw => hw.sub)
      exact be (by rw [eq_comm, decide_eq_true_eq]; rw [List.take_of_length_le (by omega), List.take_of_length_le (by omega)] at hv; exact hv)

theorem isNaNS_spec (x : Str) : FnV Tryz.prog 88 #[sv x] [] (.bool false) := by
  refine FnV.body0 (args := [sv x]) 6 Tryz.func88 rfl Tryz.ntmps88 rfl (fun c => ?_)
  refine St.seq ?_
  refine St.rg ?_
  refine St.ev _ (Ev.assign (Opd.mk rfl)) rfl ?_
  refine St.nil ?_
  refine St.then_normal ?_
  refine St.seq ?_
  refine St.rg ?_
  refine St.ev _ (Ev.move (Opd.mk rfl)) rfl ?_
  refine St.ev _ (Ev.move (Opd.mk rfl)) rfl ?_
  refine St.ev _ (Ev.strne (Opd.mk rfl) (Opd.mk rfl)) rfl ?_
  refine St.ev _ (Ev.assign (Opd.mk rfl)) rfl ?_
  refine St.nil ?_
  refine St.then_normal ?_
  refine St.rett ?_
  refine St.rets [_] [] Tryz.results88 ⟨rfl, trivial⟩ ?_ (fun _ hw => hw.sub)
  exact be (by simp)

theorem isNaNS2_spec (x : Str) : FnV Tryz.prog 68 #[sv x] [] (.bool false) := by
  refine FnV.body0 (args := [sv x]) 6 Tryz.func68 rfl Tryz.ntmps68 rfl (fun c => ?_)
  refine St.seq ?_
  refine St.rg ?_
  refine St.ev _ (Ev.assign (Opd.mk rfl)) rfl ?_
  refine St.nil ?_
  refine St.then_normal ?_
  refine St.seq ?_
  refine St.rg ?_
  refine St.ev _ (Ev.move (Opd.mk rfl)) rfl ?_
  refine St.ev _ (Ev.move (Opd.mk rfl)) rfl ?_
  refine St.ev _ (Ev.strne (Opd.mk rfl) (Opd.mk rfl)) rfl ?_
  refine St.ev _ (Ev.assign (Opd.mk rfl)) rfl ?_
  refine St.nil ?_
  refine St.then_normal ?_
  refine St.rett ?_
  refine St.rets [_] [] Tryz.results68 ⟨rfl, trivial⟩ ?_ (fun _ hw => hw.sub)
  exact be (by simp)

theorem LessS_spec (x y : Str) : FnV Tryz.prog 63 #[sv x, sv y] [] (.bool (Op.bytesLess x y)) := by
  refine FnV.body0 (args := [sv x, sv y]) 17 Tryz.func63 rfl Tryz.ntmps63 rfl (fun c => ?_)
  refine St.seq ?_
  refine St.rg ?_
  refine St.ev _ (Ev.assign (Opd.mk rfl)) rfl ?_
  refine St.nil ?_
  refine St.then_normal ?_
  refine St.seq ?_
  refine St.rg ?_
  refine St.ev _ (Ev.move (Opd.mk rfl)) rfl ?_
  refine St.ev _ (Ev.call (isNaNS_spec x) cb88 (Opds.cons (Opd.mk rfl) Opds.nil)) rfl ?_
  refine St.ev _ (Ev.move (Opd.mk rfl)) rfl ?_
  refine St.gt _ rfl rfl (fun hg => Ev.move (Opd.mk rfl)) rfl ?_
  refine St.gt _ rfl rfl (fun hg => Ev.call (isNaNS_spec y) cb88 (Opds.cons (Opd.gv rfl hg) Opds.nil)) rfl ?_
  refine St.gt _ rfl rfl (fun hg => Ev.not (Opd.gv rfl hg)) rfl ?_
  refine St.ev _ (Ev.and (Opd.mk rfl) (fun hp => Opd.gv rfl hp)) rfl ?_
  refine St.ev _ (Ev.move (Opd.mk rfl)) rfl ?_
  refine St.gf _ rfl rfl (fun hg => Ev.move (Opd.mk rfl)) rfl ?_
  refine St.gf _ rfl rfl (fun hg => Ev.move (Opd.mk rfl)) rfl ?_
  refine St.gf _ rfl rfl (fun hg => Ev.strlss (Opd.gv rfl hg) (Opd.gv rfl hg)) rfl ?_
  refine St.ev _ (Ev.or (Opd.mk rfl) (fun hp => Opd.gv rfl hp)) rfl ?_
  refine St.ev _ (Ev.assign (Opd.mk rfl)) rfl ?_
  refine St.nil ?_
  refine St.then_normal ?_
  refine St.rett ?_
  refine St.rets [_] [] Tryz.results63 ⟨rfl, trivial⟩ ?_ (fun _ hw => hw.sub)
  exact be (by simp)

theorem below_le (W : List Str) (w : Str) : below W w ≤ W.length := List.countP_le_length
def srchV (W : List Str) (w : Str) : Value := .tuple #[iv (below W w : Nat), .bool (decide (W[below W w]? = some w))]
theorem srch_end {W : List Str} {w : Str} {k : Nat} {b : Bool} (h1 : below W w = k) (h2 : b = decide (W[k]? = some w)) : ret1 [iv (k : Nat), .bool b] = srchV W w := by unfold srchV; rw [h1, h2]; rfl

theorem BinarySearch_spec (v0 : Value) (W : List Str) (w : Str) (hss : SSt W) (hW : W.length ≤ 1000000) : FnV Tryz.prog 45 #[v0, sv w] [sl strR v0 W] (srchV W w) := by
  refine FnV.body1 (args := [v0, sv w]) 54 Tryz.func45 rfl Tryz.ntmps45 rfl (fun c => ?_)
  refine St.seq ?_
  refine St.rg ?_
  refine St.ev _ (Ev.assign (Opd.mk rfl)) rfl ?_
  refine St.ev _ (Ev.assign (Opd.mk rfl)) rfl ?_
  refine St.nil ?_
  refine St.then_normal ?_
  refine St.seq ?_
  refine St.rg ?_
  refine St.ev _ (Ev.move (Opd.mk rfl)) rfl ?_
  refine St.ev _ (Ev.lensl (Opd.mk rfl) Tryz.underlying23) rfl ?_
  refine St.ev _ (Ev.assign (Opd.mk rfl)) rfl ?_
  refine St.nil ?_
  refine St.then_normal ?_
  refine St.seq ?_
  refine St.rg ?_
  refine St.ev _ (Ev.move (Opd.mk rfl)) rfl ?_
  refine St.ev _ (Ev.assign (Opd.mk rfl)) rfl ?_
  refine St.ev _ (Ev.assign (Opd.mk rfl)) rfl ?_
  refine St.nil ?_
  refine St.then_normal ?_
  refine St.seq ?_
  refine St.block ?_
  refine St.loopS (ι := Nat × Nat) (fun x T => (7, iv x.1) :: (8, iv x.2) :: T) (fun x => x.1 ≤ x.2 ∧ x.2 ≤ W.length ∧ (∀ j y, j < x.1 → W[j]? = some y → Op.bytesLess y w = true) ∧ (∀ j y, x.2 ≤ j → W[j]? = some y → Op.bytesLess y w = false)) (fun x => x.2 - x.1) (0, W.length) (Keep.cons 0 rfl (Keep.cons 1 rfl (Keep.cons 4 rfl (Keep.cons 5 rfl (Keep.cons 6 rfl Keep.nil))))) ⟨Nat.zero_le _, Nat.le_refl _, fun j y hj => absurd hj (Nat.not_lt_zero j), fun j y hj h => by have := lt_of_some h; omega⟩ (by repeat (first | exact Sub.nil | refine Sub.cons (by first | rfl | exact congrArg (fun z => some (iv z)) (by first | omega | (dsimp only; omega)) | exact congrArg (fun z => some (Value.bool z)) (by first | assumption | exact Eq.symm (by assumption))) ?_)) ?_
  rintro ⟨i, j⟩ ⟨hk1, hk2, hv1, hv2⟩
  dsimp only at hk1 hk2 hv1 hv2 ⊢
  refine St.seq ?_
  refine St.seq ?_
  refine St.rg ?_
  refine St.ev _ (Ev.move (Opd.mk rfl)) rfl ?_
  refine St.ev _ (Ev.move (Opd.mk rfl)) rfl ?_
  refine St.ev _ (Ev.lss (Opd.mk rfl) (Opd.mk rfl)) rfl ?_
  refine St.nil ?_
  refine St.then_normal ?_
  refine St.cond _ rfl (fun h15 => ?_) (fun h15 => ?_)
  · skip
    try simp only [Bool.and_true, Bool.true_and, decide_eq_true_eq, decide_eq_false_iff_not, Bool.and_eq_true, Bool.or_eq_true, Bool.and_eq_false_iff, Bool.or_eq_false_iff, Bool.not_eq_true', Bool.not_eq_false', beq_iff_eq, beq_eq_false_iff_ne, Int.not_lt, Int.not_le] at h15
    have hm1 : i ≤ (i + j) / 2 := by omega
    have hm2 : (i + j) / 2 < j := by omega
    obtain ⟨y, hy⟩ := some_of_lt (show (i + j) / 2 < W.length by omega)
    refine St.skip ?_
    refine St.then_normal ?_
    refine St.block ?_
    refine St.seq ?_
    refine St.rg ?_
    refine St.ev _ (Ev.move (Opd.mk rfl)) rfl ?_
    refine St.ev _ (Ev.move (Opd.mk rfl)) rfl ?_
    refine St.ev _ (Ev.add (Opd.mk rfl) (Opd.mk rfl) (by omega)) rfl ?_
    refine St.ev _ (Ev.convIN ((i + j)) (Opd.mk rfl) (by rw [Tryz.underlying3]; rfl) Tryz.underlying80 (by omega)) rfl ?_
    refine St.ev _ (Ev.shrU 1 2 (by decide) (Opd.mk rfl) (Opd.mk rfl) (by decide)) rfl ?_
    refine St.ev _ (Ev.convUI (Opd.mk rfl) (by rw [Tryz.underlying80]; rfl) Tryz.underlying3 (by omega)) rfl ?_
    refine St.ev _ (Ev.assign (Opd.mk rfl)) rfl ?_
    refine St.nil ?_
    refine St.then_normal ?_
    refine St.seq ?_
    refine St.rg ?_
    refine St.ev _ (Ev.move (Opd.mk rfl)) rfl ?_
    refine St.ev _ (Ev.move (Opd.mk rfl)) rfl ?_
    refine St.ev _ (Ev.idxaddr (k := ((i + j) / 2)) (Opd.mk rfl) (Opd.mk rfl) Tryz.underlying23 sz9 (by omega) (by omega)) rfl ?_
    refine St.ev _ (Ev.ld1 (Opd.mk rfl) hy Tryz.underlying9 trivial rfl) rfl ?_
    refine St.ev _ (Ev.move (Opd.mk rfl)) rfl ?_
    refine St.ev _ (Ev.call (LessS_spec y w) cb63 (Opds.cons (Opd.mk rfl) (Opds.cons (Opd.mk rfl) Opds.nil))) rfl ?_
    refine St.nil ?_
    refine St.then_normal ?_
    refine St.cond _ rfl (fun h27 => ?_) (fun h27 => ?_)
    · skip
      skip
      refine St.rg ?_
      refine St.ev _ (Ev.move (Opd.mk rfl)) rfl ?_
      refine St.ev _ (Ev.add (Opd.mk rfl) (Opd.mk rfl) (by omega)) rfl ?_
      refine St.ev _ (Ev.assign (Opd.mk rfl)) rfl ?_
      refine St.nil ?_
      refine St.in_normal ?_
      refine St.then_normal ?_
      have hv3 : ∀ q y, q < (i + j) / 2 + 1 → W[q]? = some y → Op.bytesLess y w = true := by
        intro q z hq hz
        rcases Nat.lt_or_ge q ((i + j) / 2) with g | g
        · exact slt_trans (sst_lt hss hz hy g) h27
        · obtain rfl : q = (i + j) / 2 := by omega
          rw [hy] at hz
          exact Option.some.inj hz ▸ h27
      refine St.againS ((i + j) / 2 + 1, j) ⟨by show (i + j) / 2 + 1 ≤ j; omega, hk2, hv3, hv2⟩ (by first | omega | (dsimp only; omega)) (by repeat (first | exact Sub.nil | refine Sub.cons (by first | rfl | exact congrArg (fun z => some (iv z)) (by first | omega | (dsimp only; omega)) | exact congrArg (fun z => some (Value.bool z)) (by first | assumption | exact Eq.symm (by assumption))) ?_)) (fun _ hw => hw.sub)
    · skip
      skip
      refine St.rg ?_
      refine St.ev _ (Ev.move (Opd.mk rfl)) rfl ?_
      refine St.ev _ (Ev.assign (Opd.mk rfl)) rfl ?_
      refine St.nil ?_
      refine St.in_normal ?_
      refine St.then_normal ?_
      have hv3 : ∀ q y, (i + j) / 2 ≤ q → W[q]? = some y → Op.bytesLess y w = false := by
        intro q z hq hz
        rcases Nat.lt_or_ge ((i + j) / 2) q with g | g
        · cases hc : Op.bytesLess z w with
          | false => rfl
          | true => have := slt_trans (sst_lt hss hy hz g) hc; rw [h27] at this; cases this
        · obtain rfl : q = (i + j) / 2 := by omega
          rw [hy] at hz
          exact Option.some.inj hz ▸ h27
      refine St.againS (i, (i + j) / 2) ⟨hm1, by show (i + j) / 2 ≤ W.length; omega, hv1, hv3⟩ (by first | omega | (dsimp only; omega)) (by repeat (first | exact Sub.nil | refine Sub.cons (by first | rfl | exact congrArg (fun z => some (iv z)) (by first | omega | (dsimp only; omega)) | exact congrArg (fun z => some (Value.bool z)) (by first | assumption | exact Eq.symm (by assumption))) ?_)) (fun _ hw => hw.sub)
  · skip
    try simp only [Bool.and_true, Bool.true_and, decide_eq_true_eq, decide_eq_false_iff_not, Bool.and_eq_true, Bool.or_eq_true, Bool.and_eq_false_iff, Bool.or_eq_false_iff, Bool.not_eq_true', Bool.not_eq_false', beq_iff_eq, beq_eq_false_iff_ne, Int.not_lt, Int.not_le] at h15
    have hij : i = j := by omega
    subst hij
    have hbe := below_at hss hk2 hv1 hv2
    refine St.exit ?_
    refine St.then_exit ?_
    refine St.then_exit ?_
    refine St.in_hit ?_
    refine St.then_normal ?_
    refine St.seq ?_
    refine St.rg ?_
    refine St.ev _ (Ev.move (Opd.mk rfl)) rfl ?_
    refine St.ev _ (Ev.move (Opd.mk rfl)) rfl ?_
    refine St.ev _ (Ev.move (Opd.mk rfl)) rfl ?_
    refine St.ev _ (Ev.lss (Opd.mk rfl) (Opd.mk rfl)) rfl ?_
    refine St.split 34 _ rfl (fun hs34 => ?_) (fun hs34 => ?_)
    · skip
      have hiW : i < W.length := by simpa using hs34
      obtain ⟨y, hy⟩ := some_of_lt hiW
      refine St.ev _ (Ev.move (Opd.mk rfl)) rfl ?_
      refine St.takeg rfl rfl ?_
      refine St.ev _ (Ev.move (Opd.mk rfl)) rfl ?_
      refine St.takeg rfl rfl ?_
      refine St.ev _ (Ev.move (Opd.mk rfl)) rfl ?_
      refine St.takeg rfl rfl ?_
      refine St.ev _ (Ev.idxaddr (k := i) (Opd.mk rfl) (Opd.mk rfl) Tryz.underlying23 sz9 (by omega) (by omega)) rfl ?_
      refine St.takeg rfl rfl ?_
      refine St.ev _ (Ev.ld1 (Opd.mk rfl) hy Tryz.underlying9 trivial rfl) rfl ?_
      refine St.takeg rfl rfl ?_
      refine St.ev _ (Ev.move (Opd.mk rfl)) rfl ?_
      refine St.takeg rfl rfl ?_
      refine St.ev _ (Ev.streq (Opd.mk rfl) (Opd.mk rfl)) rfl ?_
      refine St.split 41 _ rfl (fun hs41 => ?_) (fun hs41 => ?_)
      · skip
        refine St.takeg rfl rfl ?_
        refine St.ev _ (Ev.move (Opd.mk rfl)) rfl ?_
        refine St.skipg rfl rfl rfl ?_
        refine St.skipg rfl rfl rfl ?_
        refine St.skipg rfl rfl rfl ?_
        refine St.skipg rfl rfl rfl ?_
        refine St.skipg rfl rfl rfl ?_
        refine St.skipg rfl rfl rfl ?_
        refine St.skipu rfl rfl rfl ?_
        refine St.skipu rfl rfl rfl ?_
        refine St.skipg rfl rfl rfl ?_
        refine St.takeg rfl rfl ?_
        refine St.ev _ (Ev.pickt (Opd.mk rfl) rfl (Opd.mk rfl)) rfl ?_
        refine St.ev _ (Ev.pickt (Opd.mk rfl) rfl (Opd.mk rfl)) rfl ?_
        refine St.ev _ (Ev.assign (Opd.mk rfl)) rfl ?_
        refine St.ev _ (Ev.assign (Opd.mk rfl)) rfl ?_
        refine St.nil ?_
        refine St.then_normal ?_
        refine St.rett ?_
        refine St.rets [_, _] [] Tryz.results45 ⟨rfl, ⟨rfl, trivial⟩⟩ ?_ (fun _ hw => hw.sub)
        exact srch_end hbe (by rw [hy, eq_comm, decide_eq_true_eq, beq_iff_eq.1 hs41])
      · skip
        refine St.takeg rfl rfl ?_
        refine St.ev _ (Ev.move (Opd.mk rfl)) rfl ?_
        refine St.takeg rfl rfl ?_
        refine St.ev _ (Ev.move (Opd.mk rfl)) rfl ?_
        refine St.takeg rfl rfl ?_
        refine St.ev _ (Ev.move (Opd.mk rfl)) rfl ?_
        refine St.takeg rfl rfl ?_
        refine St.ev _ (Ev.idxaddr (k := i) (Opd.mk rfl) (Opd.mk rfl) Tryz.underlying23 sz9 (by omega) (by omega)) rfl ?_
        refine St.takeg rfl rfl ?_
        refine St.ev _ (Ev.ld1 (Opd.mk rfl) hy Tryz.underlying9 trivial rfl) rfl ?_
        refine St.takeg rfl rfl ?_
        refine St.ev _ (Ev.call (isNaNS2_spec y) cb68 (Opds.cons (Opd.mk rfl) Opds.nil)) rfl ?_
        refine St.takeg rfl rfl ?_
        refine St.ev _ (Ev.move (Opd.mk rfl)) rfl ?_
        refine St.gt _ rfl rfl (fun hg => Ev.move (Opd.mk rfl)) rfl ?_
        refine St.gt _ rfl rfl (fun hg => Ev.call (isNaNS2_spec w) cb68 (Opds.cons (Opd.gv rfl hg) Opds.nil)) rfl ?_
        refine St.takeg rfl rfl ?_
        refine St.ev _ (Ev.and (Opd.mk rfl) (fun hp => Opd.gv rfl hp)) rfl ?_
        refine St.takeg rfl rfl ?_
        refine St.ev _ (Ev.pickf (Opd.mk rfl) rfl (Opd.mk rfl)) rfl ?_
        refine St.ev _ (Ev.pickt (Opd.mk rfl) rfl (Opd.mk rfl)) rfl ?_
        refine St.ev _ (Ev.assign (Opd.mk rfl)) rfl ?_
        refine St.ev _ (Ev.assign (Opd.mk rfl)) rfl ?_
        refine St.nil ?_
        refine St.then_normal ?_
        refine St.rett ?_
        refine St.rets [_, _] [] Tryz.results45 ⟨rfl, ⟨rfl, trivial⟩⟩ ?_ (fun _ hw => hw.sub)
        exact srch_end hbe (by rw [hy, eq_comm]; simp only [Bool.and_false, Bool.false_and, decide_eq_false_iff_not, Option.some.injEq]; intro q; rw [q] at hs41; simp at hs41)
    · skip
      have hiW : W.length ≤ i := by simpa using hs34
      refine St.ev _ (Ev.move (Opd.mk rfl)) rfl ?_
      refine St.skipg rfl rfl rfl ?_
      refine St.skipg rfl rfl rfl ?_
      refine St.skipg rfl rfl rfl ?_
      refine St.skipg rfl rfl rfl ?_
      refine St.skipg rfl rfl rfl ?_
      refine St.skipg rfl rfl rfl ?_
      refine St.skipg rfl rfl rfl ?_
      refine St.skipu rfl rfl rfl ?_
      refine St.skipu rfl rfl rfl ?_
      refine St.skipu rfl rfl rfl ?_
      refine St.skipu rfl rfl rfl ?_
      refine St.skipu rfl rfl rfl ?_
      refine St.skipu rfl rfl rfl ?_
      refine St.skipu rfl rfl rfl ?_
      refine St.skipu rfl rfl rfl ?_
      refine St.skipu rfl rfl rfl ?_
      refine St.skipg rfl rfl rfl ?_
      refine St.ev _ (Ev.pickf (Opd.mk rfl) rfl (Opd.mk rfl)) rfl ?_
      refine St.ev _ (Ev.assign (Opd.mk rfl)) rfl ?_
      refine St.ev _ (Ev.assign (Opd.mk rfl)) rfl ?_
      refine St.nil ?_
      refine St.then_normal ?_
      refine St.rett ?_
      refine St.rets [_, _] [] Tryz.results45 ⟨rfl, ⟨rfl, trivial⟩⟩ ?_ (fun _ hw => hw.sub)
      exact srch_end hbe (by rw [List.getElem?_eq_none hiW]; rfl)

theorem number_spec (vl vw vp vo vz : Value) (W : List Str) (w : Str) (hss : SSt W) (hW : W.length ≤ 1000000) : FnV Tryz.prog 30 #[.agg #[vl, vw, vp, vo, vz], sv w] [sl strR vw W] (iv (numOf W w : Nat)) := by
  refine FnV.body1 (args := [.agg #[vl, vw, vp, vo, vz], sv w]) 18 Tryz.func30 rfl Tryz.ntmps30 rfl (fun c => ?_)
  refine St.seq ?_
  have hb := below_le W w
  refine St.rg ?_
  refine St.boxA (Opd.mk rfl) rfl (fun b2 => ?_)
  refine St.ev _ (Ev.assign (Opd.mk rfl)) rfl ?_
  refine St.nil ?_
  refine St.then_normal ?_
  refine St.seq ?_
  refine St.rg ?_
  refine St.ev _ (Ev.fldb0 (Opd.mk rfl) fo28_1) rfl ?_
  refine St.ev _ (Ev.ldb (Opd.mk rfl) Tryz.underlying23 trivial (by rfl)) rfl ?_
  refine St.ev _ (Ev.move (Opd.mk rfl)) rfl ?_
  refine St.ev _ (Ev.call (BinarySearch_spec vw W w hss hW) cb45 (Opds.cons (Opd.mk rfl) (Opds.cons (Opd.mk rfl) Opds.nil))) rfl ?_
  refine St.ev _ (Ev.move (Opd.mk rfl)) rfl ?_
  refine St.ev _ (Ev.extract (Opd.mk rfl) rfl) rfl ?_
  refine St.ev _ (Ev.extract (Opd.mk rfl) rfl) rfl ?_
  refine St.ev _ (Ev.assign (Opd.mk rfl)) rfl ?_
  refine St.ev _ (Ev.assign (Opd.mk rfl)) rfl ?_
  refine St.nil ?_
  refine St.then_normal ?_
  refine St.seq ?_
  refine St.seq ?_
  refine St.rg ?_
  refine St.ev _ (Ev.move (Opd.mk rfl)) rfl ?_
  refine St.ev _ (Ev.not (Opd.mk rfl)) rfl ?_
  refine St.nil ?_
  refine St.then_normal ?_
  refine St.cond _ rfl (fun h15 => ?_) (fun h15 => ?_)
  · skip
    simp only [Bool.not_eq_true', Bool.not_eq_false', decide_eq_true_eq, decide_eq_false_iff_not] at h15
    refine St.seq ?_
    refine St.rg ?_
    refine St.ev _ (Ev.assign (Opd.mk rfl)) rfl ?_
    refine St.nil ?_
    refine St.then_normal ?_
    refine St.rett ?_
    refine St.then_ret ?_
    refine St.rets [_] [] Tryz.results30 ⟨rfl, trivial⟩ ?_ (fun _ hw => hw.sub)
    exact ie (by unfold numOf; rw [if_neg h15]; rfl)
  · skip
    simp only [Bool.not_eq_true', Bool.not_eq_false', decide_eq_true_eq, decide_eq_false_iff_not] at h15
    refine St.skip ?_
    refine St.then_normal ?_
    refine St.seq ?_
    refine St.rg ?_
    refine St.ev _ (Ev.move (Opd.mk rfl)) rfl ?_
    refine St.ev _ (Ev.add (Opd.mk rfl) (Opd.mk rfl) (by omega)) rfl ?_
    refine St.ev _ (Ev.assign (Opd.mk rfl)) rfl ?_
    refine St.nil ?_
    refine St.then_normal ?_
    refine St.rett ?_
    refine St.rets [_] [] Tryz.results30 ⟨rfl, trivial⟩ ?_ (fun _ hw => hw.sub)
    exact ie (by unfold numOf; rw [if_pos h15]; omega)

theorem IndexI_spec (v0 : Value) (xs : List Int) (y : Int) : FnV Tryz.prog 75 #[v0, iv y] [sl intR v0 xs] (iv (ix (fun x => decide (y = x)) xs)) := by
  refine FnV.body1 (args := [v0, iv y]) 19 Tryz.func75 rfl Tryz.ntmps75 rfl (fun c => ?_)
  refine St.seq ?_
  refine St.wf v0 (fun hwf hlen => ?_)
  refine St.rg ?_
  refine St.ev _ (Ev.assign (Opd.mk rfl)) rfl ?_
  refine St.nil ?_
  refine St.then_normal ?_
  refine St.seq ?_
  refine St.seq ?_
  refine St.rg ?_
  refine St.ev _ (Ev.move (Opd.mk rfl)) rfl ?_
  refine St.ev _ (Ev.lensl (Opd.mk rfl) Tryz.underlying25) rfl ?_
  refine St.ev _ (Ev.move (Opd.mk rfl)) rfl ?_
  refine St.nil ?_
  refine St.then_normal ?_
  refine St.block ?_
  refine St.loopS (ι := Nat) (fun k T => (8, iv k) :: T) (fun k => k ≤ xs.length ∧ (xs.take k).all (fun x => !decide (y = x)) = true) (fun k => xs.length - k) 0 (Keep.cons 0 rfl (Keep.cons 1 rfl (Keep.cons 7 rfl Keep.nil))) ⟨Nat.zero_le _, rfl⟩ (by repeat (first | exact Sub.nil | refine Sub.cons (by first | rfl | exact congrArg (fun z => some (iv z)) (by first | omega | (dsimp only; omega)) | exact congrArg (fun z => some (Value.bool z)) (by first | assumption | exact Eq.symm (by assumption))) ?_)) ?_
  intro k hphi
  obtain ⟨hk, hall⟩ := hphi
  refine St.seq ?_
  refine St.rg ?_
  refine St.ev _ (Ev.lss (Opd.mk rfl) (Opd.mk rfl)) rfl ?_
  refine St.nil ?_
  refine St.then_normal ?_
  refine St.seq ?_
  refine St.cond _ rfl (fun h9 => ?_) (fun h9 => ?_)
  · skip
    try simp only [Bool.and_true, Bool.true_and, decide_eq_true_eq, decide_eq_false_iff_not, Bool.and_eq_true, Bool.or_eq_true, Bool.and_eq_false_iff, Bool.or_eq_false_iff, Bool.not_eq_true', Bool.not_eq_false', beq_iff_eq, beq_eq_false_iff_ne, Int.not_lt, Int.not_le] at h9
    obtain ⟨x, hx⟩ := some_of_lt (show k < xs.length by omega)
    refine St.skip ?_
    refine St.then_normal ?_
    refine St.seq ?_
    refine St.block ?_
    refine St.seq ?_
    refine St.rg ?_
    refine St.ev _ (Ev.move (Opd.mk rfl)) rfl ?_
    refine St.ev _ (Ev.assign (Opd.mk rfl)) rfl ?_
    refine St.nil ?_
    refine St.then_normal ?_
    refine St.seq ?_
    refine St.rg ?_
    refine St.ev _ (Ev.move (Opd.mk rfl)) rfl ?_
    refine St.ev _ (Ev.move (Opd.mk rfl)) rfl ?_
    refine St.ev _ (Ev.move (Opd.mk rfl)) rfl ?_
    refine St.ev _ (Ev.idxaddr (k := k) (Opd.mk rfl) (Opd.mk rfl) Tryz.underlying25 sz3 (by omega) (by omega)) rfl ?_
    refine St.ev _ (Ev.ld1 (Opd.mk rfl) hx Tryz.underlying3 trivial rfl) rfl ?_
    refine St.ev _ (Ev.eql (Opd.mk rfl) (Opd.mk rfl)) rfl ?_
    refine St.nil ?_
    refine St.then_normal ?_
    refine St.cond _ rfl (fun h16 => ?_) (fun h16 => ?_)
    · skip
      try simp only [Bool.and_true, Bool.true_and, decide_eq_true_eq, decide_eq_false_iff_not, Bool.and_eq_true, Bool.or_eq_true, Bool.and_eq_false_iff, Bool.or_eq_false_iff, Bool.not_eq_true', Bool.not_eq_false', beq_iff_eq, beq_eq_false_iff_ne, Int.not_lt, Int.not_le] at h16
      refine St.seq ?_
      refine St.rg ?_
      refine St.ev _ (Ev.move (Opd.mk rfl)) rfl ?_
      refine St.ev _ (Ev.assign (Opd.mk rfl)) rfl ?_
      refine St.nil ?_
      refine St.then_normal ?_
      refine St.rett ?_
      refine St.in_ret ?_
      refine St.then_ret ?_
      refine St.then_ret ?_
      refine St.in_ret ?_
      refine St.then_ret ?_
      refine St.rets [_] [] Tryz.results75 ⟨rfl, trivial⟩ ?_ (fun _ hw => hw.sub)
      exact ie (ix_found hall hx (by simpa using h16)).symm
    · skip
      try simp only [Bool.and_true, Bool.true_and, decide_eq_true_eq, decide_eq_false_iff_not, Bool.and_eq_true, Bool.or_eq_true, Bool.and_eq_false_iff, Bool.or_eq_false_iff, Bool.not_eq_true', Bool.not_eq_false', beq_iff_eq, beq_eq_false_iff_ne, Int.not_lt, Int.not_le] at h16
      refine St.skip ?_
      refine St.in_normal ?_
      refine St.then_normal ?_
      refine St.rg ?_
      refine St.ev _ (Ev.add (Opd.mk rfl) (Opd.mk rfl) (by omega)) rfl ?_
      refine St.ev _ (Ev.move (Opd.mk rfl)) rfl ?_
      refine St.nil ?_
      refine St.then_normal ?_
      refine St.againS (k + 1) ⟨by omega, all_take_some hall hx (by simpa using h16)⟩ (by first | omega | (dsimp only; omega)) (by repeat (first | exact Sub.nil | refine Sub.cons (by first | rfl | exact congrArg (fun z => some (iv z)) (by first | omega | (dsimp only; omega)) | exact congrArg (fun z => some (Value.bool z)) (by first | assumption | exact Eq.symm (by assumption))) ?_)) (fun _ hw => hw.sub)
  · skip
    try simp only [Bool.and_true, Bool.true_and, decide_eq_true_eq, decide_eq_false_iff_not, Bool.and_eq_true, Bool.or_eq_true, Bool.and_eq_false_iff, Bool.or_eq_false_iff, Bool.not_eq_true', Bool.not_eq_false', beq_iff_eq, beq_eq_false_iff_ne, Int.not_lt, Int.not_le] at h9
    refine St.exit ?_
    refine St.then_exit ?_
    refine St.then_exit ?_
    refine St.in_hit ?_
    refine St.then_normal ?_
    refine St.seq ?_
    refine St.rg ?_
    refine St.ev _ (Ev.assign (Opd.mk rfl)) rfl ?_
    refine St.nil ?_
    refine St.then_normal ?_
    refine St.rett ?_
    refine St.rets [_] [] Tryz.results75 ⟨rfl, trivial⟩ ?_ (fun _ hw => hw.sub)
    exact ie (ix_none hall (by omega)).symm

theorem ContainsI_spec (v0 : Value) (xs : List Int) (y : Int) : FnV Tryz.prog 48 #[v0, iv y] [sl intR v0 xs] (.bool (xs.any (fun x => decide (y = x)))) := by
  refine FnV.body1 (args := [v0, iv y]) 9 Tryz.func48 rfl Tryz.ntmps48 rfl (fun c => ?_)
  refine St.seq ?_
  refine St.rg ?_
  refine St.ev _ (Ev.assign (Opd.mk rfl)) rfl ?_
  refine St.nil ?_
  refine St.then_normal ?_
  refine St.seq ?_
  refine St.rg ?_
  refine St.ev _ (Ev.move (Opd.mk rfl)) rfl ?_
  refine St.ev _ (Ev.move (Opd.mk rfl)) rfl ?_
  refine St.ev _ (Ev.call (IndexI_spec v0 xs y) cb75 (Opds.cons (Opd.mk rfl) (Opds.cons (Opd.mk rfl) Opds.nil))) rfl ?_
  refine St.ev _ (Ev.geq (Opd.mk rfl) (Opd.mk rfl)) rfl ?_
  refine St.ev _ (Ev.assign (Opd.mk rfl)) rfl ?_
  refine St.nil ?_
  refine St.then_normal ?_
  refine St.rett ?_
  refine St.rets [_] [] Tryz.results48 ⟨rfl, trivial⟩ ?_ (fun _ hw => hw.sub)
  exact be (ix_nonneg _ _)

theorem CloneW_spec (v0 : Value) (l : List Str) (hl : l.length ≤ 1000000) :
    FnH Tryz.prog 27 #[v0] ([sl strR v0 l].map dat) (fun v H' => v.oneCell' = true ∧ H' = [row v 9 1 l.length (rows strR l)]) := by
  refine FnH.bodyd1 (args := [v0]) 8 Tryz.func27 rfl Tryz.ntmps27 rfl (fun c => ?_)
  refine St.seq ?_
  refine St.shape v0 (fun ad cap hv hnil => ?_)
  subst hv
  refine St.rg ?_
  refine St.ev _ (Ev.assign (Opd.mk rfl)) rfl ?_
  refine St.nil ?_
  refine St.then_normal ?_
  refine St.seq ?_
  refine St.seq ?_
  refine St.rg ?_
  refine St.ev _ (Ev.move (Opd.mk rfl)) rfl ?_
  refine St.ev _ (Ev.slnil (Opd.mk rfl) Tryz.underlying23) rfl ?_
  refine St.nil ?_
  refine St.then_normal ?_
  refine St.cond _ rfl (fun h4 => ?_) (fun h4 => ?_)
  · skip
    try simp only [Bool.and_true, Bool.true_and, decide_eq_true_eq, decide_eq_false_iff_not, Bool.and_eq_true, Bool.or_eq_true, Bool.and_eq_false_iff, Bool.or_eq_false_iff, Bool.not_eq_true', Bool.not_eq_false', beq_iff_eq, beq_eq_false_iff_ne, Int.not_lt, Int.not_le] at h4
    refine St.seq ?_
    refine St.rg ?_
    refine St.ev _ (Ev.assign (Opd.mk rfl)) rfl ?_
    refine St.nil ?_
    refine St.then_normal ?_
    refine St.rett ?_
    refine St.then_ret ?_
    have e0 : l = [] := hnil (by cases ad <;> simp [isNil] at h4; rfl)
    subst e0
    refine St.nilrow 9 1 ?_
    refine St.rets [_] [row (.slice none 0 0) 9 1 0 []] Tryz.results27 ⟨rfl, trivial⟩ ?_ (fun _ hw => hw.sub)
    exact ⟨rfl, rfl⟩
  · skip
    try simp only [Bool.and_true, Bool.true_and, decide_eq_true_eq, decide_eq_false_iff_not, Bool.and_eq_true, Bool.or_eq_true, Bool.and_eq_false_iff, Bool.or_eq_false_iff, Bool.not_eq_true', Bool.not_eq_false', beq_iff_eq, beq_eq_false_iff_ne, Int.not_lt, Int.not_le] at h4
    refine St.skip ?_
    refine St.then_normal ?_
    refine St.seq ?_
    refine St.rg ?_
    refine St.buildSl (xs := []) (ps := []) rfl (Opds.nil) Tryz.underlying23 sz9 zv9 rfl rfl (by simp [Value.cells]) rfl rfl (fun b5 => ?_)
    refine St.ev _ (Ev.move (Opd.mk rfl)) rfl ?_
    refine St.appendSl (Opd.mk rfl) (Opd.mk rfl) Tryz.underlying23 sz9 zv9 by9 (rows_one _ _) (by omega) (by omega) rfl rfl trivial rfl (fun v7 hv7 => ?_)
    refine St.ev _ (Ev.assign (Opd.mk rfl)) rfl ?_
    refine St.nil ?_
    refine St.then_normal ?_
    refine St.rett ?_
    refine St.rowEqN v7 (show _ = l.length by simp) (show _ = rows strR l by rfl) ?_
    refine St.rowOne v7 (fun h1 _ => ?_)
    refine St.rets [_] [row v7 9 strR.size l.length (rows strR l)] Tryz.results27 ⟨rfl, trivial⟩ ?_ (fun _ hw => hw.sub)
    exact ⟨h1, rfl⟩

end Go.Proofs.YtgikcbfdonjggaaGreatDoor

/-
  (YtgikcbfdonjggaaGreatDoorJ19)
  A part of a row of the call's own: its length, its places; its elements set to zero.
  Conditions: none; everything holds of any program.
-/
namespace Go.J
open Go
section
variable {P : Program} {n : Nat} {F : Fr} {A : World → Prop} {c : Ctx} {H R : List Ent} {ty : TypeId} {x y z : Operand} {v : Value} {Q : Exit → Act → World → Prop} {ops : Array Oper} {rest : List Oper}
  {d : Nat} {pos : String} {after : Array Edge} {t e : TypeId} {size m : Nat} {cs : List Value}
/-- 'x[l:]' of a row of the call's own: the value -/
theorem Ev.slicerow_l {i : Int} {l : Nat} {ki : IntKind} {lo : Operand} [hr : InR v H e size m cs] (hx : Opd F x v) (hlo : Opd F lo (.int ki i)) (ht : P.underlying t = some (.slice e)) (hs : (P.info? e).map (·.size) = some size)
    (hi : i = l) (hl : l ≤ m) : Ev P n F (Mm c H) (.slice t x (some lo) none none) ty (slv v size l m) := .of_run fun a w ha hw => by
  obtain ⟨ρ, hm⟩ := hw.out
  obtain ⟨inf, hinf, hsz⟩ := Option.map_eq_some_iff.1 hs
  subst hi
  rcases (hm.row hr).2 with ⟨rfl, rfl⟩ | ⟨g, cap, cur, rfl, _, _, hc1, _⟩
  · have b2 : (0 : Int) ≤ (l : Int) ∧ (l : Int) ≤ ((0 : Nat) : Int) := by omega
    simp only [execOp, hx.eval ha, hlo.eval ha, Option.map_some, Option.map_none, Instr.sliceAt, Instr.slice, Instr.sliceBounds, Instr.sliceBound, asIntOf, Sem.run_bind, run_underlying ht, Result.andThen_ok, Sem.run_pure, b2, and_self, if_true, Int.toNat_natCast, sizeOf, typeInfo, run_program, hinf, hsz, slv_slice]
  · have b2 : (0 : Int) ≤ (l : Int) ∧ (l : Int) ≤ (m : Int) := by omega
    simp only [execOp, hx.eval ha, hlo.eval ha, Option.map_some, Option.map_none, Instr.sliceAt, Instr.slice, Instr.sliceBounds, Instr.sliceBound, asIntOf, Sem.run_bind, run_underlying ht, Result.andThen_ok, Sem.run_pure, b2, and_self, if_true, Int.toNat_natCast, sizeOf, typeInfo, run_program, hinf, hsz, slv_slice]
/-- how long a part of a row is -/
theorem Ev.lenslv {e' : TypeId} {l h : Nat} [hr : InR v H e size m cs] (hx : Opd F x (slv v size l h)) (ht : P.underlying t = some (.slice e')) :
    Ev P n F (Mm c H) (.call { callee := .builtin .len, args := #[x], argTypes := #[t] }) ty (iv ((h - l : Nat))) := .of_run fun a w ha hw => by
  obtain ⟨ρ, hm⟩ := hw.out
  rcases (hm.row hr).2 with ⟨rfl, rfl⟩ | ⟨g, cap, cur, rfl, _⟩
  · rw [slv_slice] at hx
    simp [execOp, resolve, invoke, builtin, hx.eval ha, Builtin.len_, run_underlying ht, goInt]
  · rw [slv_slice] at hx
    simp [execOp, resolve, invoke, builtin, hx.eval ha, Builtin.len_, run_underlying ht, goInt]
/-- a place of a part of a row -/
theorem Ev.idxaddrslv {i : Int} {kd : IntKind} {j l h : Nat} [hr : InR v H e size m cs] (hx : Opd F x (slv v size l h)) (hy : Opd F y (.int kd i)) (ht : P.underlying t = some (.slice e)) (hs : (P.info? e).map (·.size) = some size)
    (hi : i = j) (hj : l + j < h) (hh : h ≤ m) : Ev P n F (Mm c H) (.indexAddr t x y) ty (eptr v size (l + j) 0) := .of_run fun a w ha hw => by
  obtain ⟨ρ, hm⟩ := hw.out
  rcases (hm.row hr).2 with ⟨rfl, rfl⟩ | ⟨g, cap, cur, rfl, _, _, hc1, _⟩
  · omega
  · obtain ⟨inf, hinf, hsz⟩ := Option.map_eq_some_iff.1 hs
    subst hi
    have hk : j < h - l := by omega
    have hne : ¬ cap = l := by omega
    rw [slv_slice, if_neg hne] at hx
    simp only [Option.map_some, Addr.add_lit, Nat.zero_add] at hx
    simp [execOp, hx.eval ha, hy.eval ha, Instr.indexAt, asIntOf, run_underlying ht, sizeOf, typeInfo, hinf, hsz, hk, eptr_slice, Addr.add_lit, Nat.add_mul]
theorem take_mid {α : Type} {A B C : List α} {m : Nat} (h : A.length + B.length = m) : (A ++ B ++ C).take m = A ++ B := by
  rw [List.take_append_of_le_length (by rw [List.length_append]; omega), List.take_of_length_le (by rw [List.length_append]; omega)]
theorem setCells_heap (b : Nat) {e : TypeId} {fr : Nat × Nat} : ∀ (vs : List Value) (o : Nat) (w : World) (C : List Value), w.heap[b]? = some (.cells C.toArray e fr) → o + vs.length ≤ C.length →
    (w.setCells b o vs).heap[b]? = some (.cells (C.take o ++ vs ++ C.drop (o + vs.length)).toArray e fr) ∧ (w.setCells b o vs).heap.size = w.heap.size ∧ (∀ k, k ≠ b → (w.setCells b o vs).heap[k]? = w.heap[k]?) ∧
    (w.setCells b o vs).os = w.os ∧ (w.setCells b o vs).tape = w.tape ∧ (w.setCells b o vs).drawn = w.drawn ∧ (w.setCells b o vs).output = w.output
  | [], o, w, C, h, _ => by simp [World.setCells, h]
  | u :: vs, o, w, C, h, hl => by
    simp only [List.length_cons] at hl
    have h1 : (w.setCell ⟨b, o, none⟩ u).heap[b]? = some (.cells (C.set o u).toArray e fr) := by
      simp [World.setCell, Array.getElem?_modify, h]
    have h2 : ∀ k, k ≠ b → (w.setCell ⟨b, o, none⟩ u).heap[k]? = w.heap[k]? := by
      intro k hk
      simp only [World.setCell, Array.getElem?_modify]
      rw [if_neg (fun e => hk e.symm)]
    have ih := setCells_heap b vs (o + 1) (w.setCell ⟨b, o, none⟩ u) (C.set o u) h1 (by rw [List.length_set]; omega)
    rw [World.setCells]
    refine ⟨?_, by rw [ih.2.1]; simp [World.setCell], fun k hk => by rw [ih.2.2.1 k hk, h2 k hk], by rw [ih.2.2.2.1]; rfl, by rw [ih.2.2.2.2.1]; rfl, by rw [ih.2.2.2.2.2.1]; rfl, by rw [ih.2.2.2.2.2.2]; rfl⟩
    rw [ih.1]
    congr 2
    simp only [List.length_cons]
    rw [List.drop_set_of_lt (by omega), show o + 1 + vs.length = o + (vs.length + 1) by omega]
    have : (C.set o u).take (o + 1) = C.take o ++ [u] := by
      rw [List.take_succ_eq_append_getElem (by rw [List.length_set]; omega), List.take_set_of_le (Nat.le_refl _)]
      simp
    rw [this]
    simp
/-- 'clear(x[l:])' of a row of the call's own -/
theorem St.clearslv {zv : Value} {l : Nat} {R1 : List Ent} [tk : TakeR v H e 1 m cs R1] (hx : Opd F x (slv v 1 l m)) (ht : P.underlying t = some (.slice e)) (hz : (P.info? e).bind (·.zero) = some zv) (hzs : zv.cells = #[zv]) (h1 : zv.oneCell' = true) (hl : l ≤ m) {dd : Option Tmp} (hd : dd = none)
    (h : St n F (Mm c (row v e 1 m (cs.take l ++ List.replicate (m - l) zv) :: R1)) (wpList P ops Q rest)) :
    St n F (Mm c H) (wpList P ops Q ({ dst := dd, op := .call { callee := .builtin .clear, args := #[x], argTypes := #[t] }, type := ty, pos := pos, after := after, guard := none } :: rest)) := by
  subst hd
  refine St.do_none (K := fun u' H' => H' = row v e 1 m (cs.take l ++ List.replicate (m - l) zv) :: R1) ?_ ?_
  · intro a w ρ ha hm
    have hm' := hm.perm tk.perm
    have hr := row_ok.1 (hm'.ents _ (List.mem_cons_self ..))
    obtain ⟨i, hi, hzi⟩ := Option.bind_eq_some_iff.1 hz
    have hzv : ∀ w, (zeroValue e).run P w = .ok zv w := fun w => by simp [zeroValue, typeInfo, hi, hzi]
    have hcl := hr.1
    rw [Nat.mul_one] at hcl
    have hlen : (cs.take l ++ List.replicate (m - l) zv).length = m * 1 := by rw [List.length_append, List.length_take, List.length_replicate]; omega
    rcases hr.2 with ⟨rfl, rfl⟩ | ⟨g, cap, cur, rfl, hg0, hg, hc1, hc2, hcs, htk⟩
    · obtain rfl : l = 0 := by omega
      have hcs0 : cs = [] := List.eq_nil_of_length_eq_zero hcl
      subst hcs0
      rw [slv_slice] at hx
      refine ⟨.value (.tuple #[]), w, ρ, _, ?_, ⟨_, .inl rfl, rfl⟩, ?_⟩
      · simp [execOp, resolve, invoke, builtin, hx.eval ha, Builtin.clear_, run_underlying ht]
      · simpa using hm'
    · rcases Nat.lt_or_ge l m with hlm | hlm
      · have hne : ¬ cap = l := by omega
        rw [slv_slice, if_neg hne] at hx
        simp only [Option.map_some, Addr.add_lit, Nat.zero_add, Nat.mul_one] at hx
        have hcell : ∀ off, w.cell? ⟨g, off, none⟩ = cur[off]? := fun off => cell?_of_blk hg
        rw [Nat.mul_one] at hcs
        have hr2 := Lib.run_clear_slice (P := P) w t e ty zv ht hzv hzs h1 g l (m - l) (cap - l) (by omega) (fun j hj => by rw [hcell, Array.getElem?_eq_getElem (by omega)]; rfl) (fun j hj => by simp [World.frozen?, hg])
        obtain ⟨k1, k2, k3, k4, k5, k6, k7⟩ := setCells_heap g (List.replicate (m - l) zv) l w cur.toList (by rw [hg]) (by rw [List.length_replicate, Array.length_toList]; omega)
        refine ⟨.value (.tuple #[]), w.setCells g l (List.replicate (m - l) zv), ρ, _, ?_, ⟨_, .inl rfl, rfl⟩, ?_⟩
        · simp [execOp, resolve, invoke, builtin, hx.eval ha, hr2]
        · refine hm'.alter k4 ⟨k5, by rw [k6]; exact Nat.le_refl _⟩ k7 (by rw [k2]; exact Nat.le_refl _) (fun k hk hne => ?_) (row_ok.2 ⟨hlen, .inr ⟨g, cap, _, rfl, hg0, k1, hc1, hc2, ?_, ?_⟩⟩) (fun b' hb' => by rw [row_key] at hb' ⊢; exact .inl hb')
          · rw [row_key] at hne
            exact k3 k (fun e => hne (by rw [e]; rfl))
          · simp only [List.size_toArray, List.length_append, List.length_take, List.length_replicate, List.length_drop, Array.length_toList]; omega
          · have htk' : cur.toList.take m = cs := by simpa using htk
            show (cur.toList.take l ++ List.replicate (m - l) zv ++ cur.toList.drop (l + (List.replicate (m - l) zv).length)).take (m * 1) = _
            rw [take_mid (by rw [List.length_take, List.length_replicate, Array.length_toList]; omega)]
            rw [← htk', List.take_take, Nat.min_eq_left (show l ≤ m by omega)]
      · obtain rfl : l = m := by omega
        rw [slv_slice, Nat.sub_self] at hx
        refine ⟨.value (.tuple #[]), w, ρ, _, ?_, ⟨_, .inl rfl, rfl⟩, ?_⟩
        · have hx2 : ∃ ad, Opd F x (.slice ad 0 (cap - l)) := ⟨_, hx⟩
          obtain ⟨ad, hx3⟩ := hx2
          cases ad <;> simp [execOp, resolve, invoke, builtin, hx3.eval ha, Builtin.clear_, run_underlying ht]
        · have : cs.take l ++ List.replicate (l - l) zv = cs := by rw [Nat.sub_self, List.replicate_zero, List.append_nil, List.take_of_length_le (by omega)]
          rw [this]; exact hm'
  · rintro _ _ rfl
    exact h
end
end Go.J

/-
  (YtgikcbfdonjggaaGreatDoorCmpF)
  Striking neighbours that are alike: plain facts, no program stands here.
  Conditions: none.
-/
namespace Go.J
open Go
section
variable (e : Nat → Nat → Bool)
def dda : Nat → List Nat → List Nat
  | _, [] => []
  | p, x :: l => if e x p then dda x l else x :: dda x l
def dd : List Nat → List Nat
  | [] => []
  | x :: l => x :: dda e x l
theorem dda_snoc (x : Nat) : ∀ (l : List Nat) (p : Nat), dda e p (l ++ [x]) = if e x (l.getLastD p) then dda e p l else dda e p l ++ [x]
  | [], p => by simp [dda]
  | y :: l, p => by
    rw [List.cons_append, dda, dda, dda_snoc x l y]
    have h : (y :: l).getLastD p = l.getLastD y := by cases l <;> rfl
    rw [h]
    by_cases h1 : e y p = true
    · rw [if_pos h1, if_pos h1]
    · rw [if_neg h1, if_neg h1]
      split <;> rfl
theorem dd_step {l : List Nat} {j : Nat} (h0 : 0 < j) (hj : j < l.length) : dd e (l.take (j + 1)) = if e (l.getD j 0) (l.getD (j - 1) 0) then dd e (l.take j) else dd e (l.take j) ++ [l.getD j 0] := by
  have hx : l[j]? = some (l.getD j 0) := by rw [List.getD_eq_getElem?_getD, List.getElem?_eq_getElem hj]; rfl
  have hy : l[j - 1]? = some (l.getD (j - 1) 0) := by rw [List.getD_eq_getElem?_getD, List.getElem?_eq_getElem (show j - 1 < l.length by omega)]; rfl
  rw [take_of_some hx]
  cases l with
  | nil => simp at hj
  | cons a l =>
    obtain ⟨i, rfl⟩ : ∃ i, j = i + 1 := ⟨j - 1, by omega⟩
    rw [List.take_succ_cons, List.cons_append, dd, dd, dda_snoc]
    have hl : (l.take i).getLastD a = (a :: l).getD (i + 1 - 1) 0 := by
      rw [Nat.add_sub_cancel]
      cases i with
      | zero => simp
      | succ i =>
        simp only [List.length_cons] at hj
        have hz : l[i]? = some (l.getD i 0) := by rw [List.getD_eq_getElem?_getD, List.getElem?_eq_getElem (show i < l.length by omega)]; rfl
        rw [take_of_some hz]
        simp [List.getLastD_eq_getLast?]
    rw [hl]
    split <;> rfl
theorem dd_len : ∀ (l : List Nat), (dd e l).length ≤ l.length
  | [] => Nat.le_refl _
  | x :: l => by
    have : ∀ (l : List Nat) (p : Nat), (dda e p l).length ≤ l.length := by
      intro l
      induction l with
      | nil => intro p; exact Nat.le_refl _
      | cons y l ih => intro p; rw [dda]; split <;> simp only [List.length_cons] <;> have := ih y <;> omega
    rw [dd, List.length_cons, List.length_cons]
    have := this l x
    omega
/-- none of the first k has the one before it alike -/
theorem dd_none {l : List Nat} : ∀ k, k ≤ l.length → (∀ j, 0 < j → j < k → e (l.getD j 0) (l.getD (j - 1) 0) = false) → dd e (l.take k) = l.take k
  | 0, _, _ => by simp [dd]
  | 1, h, _ => by cases l with
    | nil => simp [dd]
    | cons x l => simp [dd, dda]
  | k + 2, h, hj => by
    rw [dd_step e (by omega) (by omega), if_neg (by rw [hj (k + 1) (by omega) (by omega)]; decide), dd_none (k + 1) (by omega) (fun j h1 h2 => hj j h1 (by omega))]
    have hx : l[k + 1]? = some (l.getD (k + 1) 0) := by rw [List.getD_eq_getElem?_getD, List.getElem?_eq_getElem (show k + 1 < l.length by omega)]; rfl
    exact (take_of_some hx).symm
/-- the row while it is being struck: the first j are through, k of them left -/
structure CF (l : List Nat) (j k : Nat) (W : List Nat) : Prop where
  len : W.length = l.length
  kj : k < j
  jl : j ≤ l.length
  num : k = (dd e (l.take j)).length
  out : W.take k = dd e (l.take j)
  rest : ∀ i, j ≤ i + 1 → W.getD i 0 = l.getD i 0
theorem CF.start {l : List Nat} {k : Nat} (h0 : 0 < k) (hk : k < l.length) (hn : ∀ j, 0 < j → j < k → e (l.getD j 0) (l.getD (j - 1) 0) = false) (he : e (l.getD k 0) (l.getD (k - 1) 0) = true) : CF e l (k + 1) k l := by
  have h1 := dd_none e k (by omega) hn
  have h2 : dd e (l.take (k + 1)) = l.take k := by rw [dd_step e h0 hk, if_pos he, h1]
  exact ⟨rfl, by omega, by omega, by rw [h2, List.length_take]; omega, h2.symm, fun i _ => rfl⟩
theorem CF.skip {l W : List Nat} {j k : Nat} (h : CF e l j k W) (hj : j < l.length) (he : e (l.getD j 0) (l.getD (j - 1) 0) = true) : CF e l (j + 1) k W := by
  have h2 : dd e (l.take (j + 1)) = dd e (l.take j) := by rw [dd_step e (by have := h.kj; omega) hj, if_pos he]
  exact ⟨h.len, by have := h.kj; omega, by omega, by rw [h2]; exact h.num, by rw [h2]; exact h.out, fun i hi => h.rest i (by omega)⟩
theorem CF.keep {l W : List Nat} {j k : Nat} (h : CF e l j k W) (hj : j < l.length) (he : e (l.getD j 0) (l.getD (j - 1) 0) = false) : CF e l (j + 1) (k + 1) (W.set k (l.getD j 0)) := by
  have hkj := h.kj
  have h2 : dd e (l.take (j + 1)) = dd e (l.take j) ++ [l.getD j 0] := by rw [dd_step e (by omega) hj, if_neg (by rw [he]; decide)]
  have hl := h.len
  refine ⟨by rw [List.length_set, h.len], by omega, by omega, by rw [h2, List.length_append, ← h.num]; rfl, ?_, fun i hi => ?_⟩
  · rw [h2, ← h.out]
    have hx : (W.set k (l.getD j 0))[k]? = some (l.getD j 0) := by rw [List.getElem?_set_self (by omega)]
    rw [take_of_some hx, List.take_set_of_le (Nat.le_refl _)]
  · rw [← h.rest i (by omega)]
    rw [List.getD_eq_getElem?_getD, List.getElem?_set_ne (by omega), ← List.getD_eq_getElem?_getD]
end
section
variable (f : Nat → List Str)
def eqf (i j : Nat) : Bool := decide (f i = f j)
theorem dda_inc : ∀ (l : List Nat) (p : Nat), (∀ x ∈ l, wlt (f x) (f p) = false) → l.Pairwise (fun a b => wlt (f b) (f a) = false) → (∀ x ∈ dda (eqf f) p l, wlt (f p) (f x) = true) ∧ (dda (eqf f) p l).Pairwise (fun a b => wlt (f a) (f b) = true) ∧ (∀ x ∈ l, f x = f p ∨ ∃ y ∈ dda (eqf f) p l, f y = f x)
  | [], p, _, _ => ⟨(fun x hx => by cases hx), List.Pairwise.nil, (fun x hx => by cases hx)⟩
  | y :: l, p, h, hs => by
    have hs' := List.pairwise_cons.1 hs
    obtain ⟨i1, i2, i3⟩ := dda_inc l y hs'.1 hs'.2
    have hy := h y (List.mem_cons_self ..)
    rw [dda]
    by_cases e : f y = f p
    · rw [if_pos (show eqf f y p = true from decide_eq_true e)]
      rw [← e]
      refine ⟨i1, i2, fun x hx => ?_⟩
      rcases List.mem_cons.1 hx with rfl | hx
      · exact .inl rfl
      · exact i3 x hx
    · rw [if_neg (show ¬ eqf f y p = true by unfold eqf; simpa using e)]
      have hlt : wlt (f p) (f y) = true := by
        rcases wlt_tri (f p) (f y) with q | q | q
        · exact q
        · exact absurd q.symm e
        · rw [hy] at q; cases q
      refine ⟨fun x hx => ?_, List.pairwise_cons.2 ⟨i1, i2⟩, fun x hx => ?_⟩
      · rcases List.mem_cons.1 hx with rfl | hx
        · exact hlt
        · exact wlt_trans hlt (i1 x hx)
      · rcases List.mem_cons.1 hx with rfl | hx
        · exact .inr ⟨x, List.mem_cons_self .., rfl⟩
        · rcases i3 x hx with q | ⟨z, hz, q⟩
          · exact .inr ⟨y, List.mem_cons_self .., q.symm⟩
          · exact .inr ⟨z, List.mem_cons_of_mem _ hz, q⟩
theorem dd_inc {l : List Nat} (hs : l.Pairwise (fun a b => wlt (f b) (f a) = false)) : (dd (eqf f) l).Pairwise (fun a b => wlt (f a) (f b) = true) ∧ (∀ x ∈ l, ∃ y ∈ dd (eqf f) l, f y = f x) := by
  cases l with
  | nil => exact ⟨.nil, fun x hx => by cases hx⟩
  | cons y l =>
    have hs' := List.pairwise_cons.1 hs
    obtain ⟨i1, i2, i3⟩ := dda_inc f l y hs'.1 hs'.2
    refine ⟨List.pairwise_cons.2 ⟨i1, i2⟩, fun x hx => ?_⟩
    rcases List.mem_cons.1 hx with rfl | hx
    · exact ⟨x, List.mem_cons_self .., rfl⟩
    · rcases i3 x hx with q | ⟨z, hz, q⟩
      · exact ⟨y, List.mem_cons_self .., q.symm⟩
      · exact ⟨z, List.mem_cons_of_mem _ hz, q⟩
theorem dda_sub (e : Nat → Nat → Bool) : ∀ (l : List Nat) (p x : Nat), x ∈ dda e p l → x ∈ l
  | [], _, _, h => h
  | y :: l, p, x, h => by
    rw [dda] at h
    split at h
    · exact List.mem_cons_of_mem _ (dda_sub e l y x h)
    · rcases List.mem_cons.1 h with rfl | h
      · exact List.mem_cons_self ..
      · exact List.mem_cons_of_mem _ (dda_sub e l y x h)
theorem dd_sub (e : Nat → Nat → Bool) {l : List Nat} {x : Nat} (h : x ∈ dd e l) : x ∈ l := by
  cases l with
  | nil => exact h
  | cons y l =>
    rcases List.mem_cons.1 h with rfl | h
    · exact List.mem_cons_self ..
    · exact List.mem_cons_of_mem _ (dda_sub e l y x h)
end
end Go.J

/-
  (YtgikcbfdonjggaaGreatDoorJ23)
  The library's sort of texts, as a contract over a row that the call owns.
  Conditions: none; everything holds of any program.
-/
namespace Go.J
open Go Go.Proofs Go.Shelf Go.RowKit Go.Lib Go.Sort
theorem rows_strR (xs : List Str) : rows strR xs = xs.map (fun x => sv x) := by
  induction xs with
  | nil => rfl
  | cons x xs ih => simp only [rows, List.flatMap_cons, List.map_cons] at ih ⊢; rw [ih]; rfl
theorem sortS_spec {P : Program} {ρr : Ren} (L : SlLaysM.n6 P ρr) (v : Value) (e : TypeId) (xs : List Str) (hlen : xs.length < 4611686018427387904) :
    FnH P (ρr.f 6) #[v] [row v e 1 xs.length (rows strR xs)] (fun u H' => u = .tuple #[] ∧ H' = [row v e 1 xs.length (rows strR (xs.mergeSort fun x y => decide (x ≤ y)))]) := by
  intro w ρ st0
  have st : Start (([] : List Dat).map dat ++ [row v e 1 xs.length (xs.map encStr)]) ρ w := by
    rw [rows_strR] at st0; exact st0
  have hO : owns [row v e 1 xs.length (rows strR xs)] = owns (([] : List Dat).map dat ++ [row v e 1 xs.length (xs.map encStr)]) := by rw [rows_strR]; rfl
  rw [hO]
  have hrow := row_ok.1 (st.ents _ (List.mem_append_right _ (List.mem_singleton_self _)))
  have none : ∀ (p : Option Addr) (cap : Nat), v = .slice p 0 cap → xs = [] → Calls P (ρr.f 6) #[v] w fun e_1 w' => ∃ v_1 H', e_1 = .returned v_1 ∧
      (v_1 = .tuple #[] ∧ H' = [row v e 1 xs.length (rows strR (xs.mergeSort fun x y => decide (x ≤ y)))]) ∧ Mm ⟨w, ρ, owns (([] : List Dat).map dat ++ [row v e 1 xs.length (xs.map encStr)]), True⟩ H' w' := by
    intro p cap hv hd0
    have hc := AnyM.slices_Sort_string_none (P := P) (ρ := ρr) L p cap w
    rw [← hv] at hc
    refine hc.mono ?_
    rintro e' w' ⟨rfl, rfl⟩
    refine ⟨_, _, rfl, ⟨rfl, rfl⟩, ?_⟩
    rw [rows_strR, hd0, show ([] : List Str).mergeSort (fun x y => decide (x ≤ y)) = [] from List.mergeSort_nil]
    rw [hd0] at st
    exact st.stays
  rcases hrow.2 with ⟨hv, hn⟩ | ⟨g0, cap, cur, hv, _, hg, hnc, hcm, hcs, htk⟩
  · exact none _ _ hv (List.eq_nil_of_length_eq_zero hn)
  · by_cases hz : xs.length = 0
    · rw [hz] at hv; exact none _ _ hv (List.eq_nil_of_length_eq_zero hz)
    · obtain ⟨hH, hblk, hle, hend⟩ := Start.sorted st hv hg hnc hcm hcs htk
      have main := AnyM.slices_Sort_string L g0 0 cap xs w hH hblk hlen
      rw [← hv] at main
      refine main.mono ?_
      rintro e' w' ⟨rfl, n, os, rfl⟩
      refine ⟨_, _, rfl, ⟨rfl, rfl⟩, ?_⟩
      rw [rows_strR]
      have := hend n (xs.mergeSort fun x y => decide (x ≤ y)).toArray os (by simp)
      exact this
end Go.J

/-
  (YtgikcbfdonjggaaGreatDoorC3)
  The walk of the striking of neighbours that are alike, at texts.
  Conditions: few elements.
-/
set_option maxRecDepth 20000
set_option linter.unusedSimpArgs false
set_option linter.unusedVariables false
namespace Go.Proofs.YtgikcbfdonjggaaGreatDoor
open Go Go.J

theorem rowE {enc : Nat → Value} {l : List Nat} {k : Nat} (h : k < l.length) : (l.map enc)[k * 1 + 0]? = some (enc (l.getD k 0)) := by
  rw [Nat.mul_one, Nat.add_zero, List.getElem?_map, some_getD 0 h]; rfl
theorem rowE_set (enc : Nat → Value) (l : List Nat) (k x : Nat) : (l.map enc).set (k * 1 + 0) (enc x) = (l.set k x).map enc := by rw [Nat.mul_one, Nat.add_zero, List.map_set]
theorem getDm {l : List Nat} {k : Nat} (h : k < l.length) : l.getD k 0 ∈ l := by
  rw [List.getD_eq_getElem?_getD, List.getElem?_eq_getElem h]; exact List.getElem_mem h
theorem sort28_spec (v : Value) (xs : List Str) (hlen : xs.length < 4611686018427387904) : FnH Tryz.prog 28 #[v] [row v 9 1 xs.length (rows strR xs)] (fun u H' => u = .tuple #[] ∧ H' = [row v 9 1 xs.length (rows strR (xs.mergeSort fun x y => decide (x ≤ y)))]) :=
  sortS_spec Tryz.laysSlM6_f28 v 9 xs hlen

theorem CompactS_spec (en : Nat → Str) (v : Value) (l : List Nat) (hlen : l.length ≤ 1000000) :
    FnH Tryz.prog 29 #[v] [row v 9 1 l.length (l.map (fun i => sv (en i)))] (fun u H' => u.oneCell' = true ∧ H' = [row u 9 1 (dd (fun a b => en a == en b) l).length ((dd (fun a b => en a == en b) l).map (fun i => sv (en i)))]) := by
  refine FnH.body (args := [v]) 61 Tryz.func29 rfl Tryz.ntmps29 rfl (fun c => ?_)
  refine St.seq ?_
  refine St.rowOne v (fun hov _ => ?_)
  generalize heq : (fun a b => en a == en b) = eq
  have eqd : ∀ a b, (en a == en b) = eq a b := fun a b => by rw [← heq]
  refine St.rg ?_
  refine St.ev _ (Ev.assign (Opd.mk rfl)) rfl ?_
  refine St.nil ?_
  refine St.then_normal ?_
  refine St.seq ?_
  refine St.seq ?_
  refine St.rg ?_
  refine St.ev _ (Ev.move (Opd.mk rfl)) rfl ?_
  refine St.ev _ (Ev.lenrow (Opd.mk rfl) Tryz.underlying23) rfl ?_
  refine St.ev _ (Ev.lss (Opd.mk rfl) (Opd.mk rfl)) rfl ?_
  refine St.nil ?_
  refine St.then_normal ?_
  refine St.cond _ rfl (fun h8 => ?_) (fun h8 => ?_)
  · skip
    try simp only [Bool.and_true, Bool.true_and, decide_eq_true_eq, decide_eq_false_iff_not, Bool.and_eq_true, Bool.or_eq_true, Bool.and_eq_false_iff, Bool.or_eq_false_iff, Bool.not_eq_true', Bool.not_eq_false', beq_iff_eq, beq_eq_false_iff_ne, Int.not_lt, Int.not_le] at h8
    refine St.seq ?_
    refine St.rg ?_
    refine St.ev _ (Ev.move (Opd.mk rfl)) rfl ?_
    refine St.ev _ (Ev.assign (Opd.mk rfl)) rfl ?_
    refine St.nil ?_
    refine St.then_normal ?_
    refine St.rett ?_
    refine St.then_ret ?_
    have hdd := dd_none eq (l := l) l.length (Nat.le_refl _) (fun j h1 h2 => by omega)
    rw [List.take_length] at hdd
    refine St.rets [_] [row v 9 1 l.length (l.map (fun i => sv (en i)))] Tryz.results29 ⟨rfl, trivial⟩ ?_ (fun _ hw => hw.sub)
    rw [hdd]; exact ⟨hov, rfl⟩
  · skip
    try simp only [Bool.and_true, Bool.true_and, decide_eq_true_eq, decide_eq_false_iff_not, Bool.and_eq_true, Bool.or_eq_true, Bool.and_eq_false_iff, Bool.or_eq_false_iff, Bool.not_eq_true', Bool.not_eq_false', beq_iff_eq, beq_eq_false_iff_ne, Int.not_lt, Int.not_le] at h8
    refine St.skip ?_
    refine St.then_normal ?_
    refine St.seq ?_
    refine St.seq ?_
    refine St.rg ?_
    refine St.ev _ (Ev.assign (Opd.mk rfl)) rfl ?_
    refine St.nil ?_
    refine St.then_normal ?_
    refine St.block ?_
    refine St.loopS (ι := Nat) (fun k T => (3, iv k) :: T) (fun k => 1 ≤ k ∧ k ≤ l.length ∧ ∀ j, 0 < j → j < k → eq (l.getD j 0) (l.getD (j - 1) 0) = false) (fun k => l.length - k) 1 (Keep.cons 0 rfl Keep.nil) ⟨Nat.le_refl _, by omega, fun j h1 h2 => by omega⟩ (by repeat (first | exact Sub.nil | refine Sub.cons (by first | rfl | exact congrArg (fun z => some (iv z)) (by first | omega | (dsimp only; omega)) | exact congrArg (fun z => some (Value.bool z)) (by first | assumption | exact Eq.symm (by assumption))) ?_)) ?_
    intro k hphi
    obtain ⟨hk1, hk2, hno⟩ := hphi
    refine St.seq ?_
    refine St.seq ?_
    refine St.rg ?_
    refine St.ev _ (Ev.move (Opd.mk rfl)) rfl ?_
    refine St.ev _ (Ev.move (Opd.mk rfl)) rfl ?_
    refine St.ev _ (Ev.lenrow (Opd.mk rfl) Tryz.underlying23) rfl ?_
    refine St.ev _ (Ev.lss (Opd.mk rfl) (Opd.mk rfl)) rfl ?_
    refine St.nil ?_
    refine St.then_normal ?_
    refine St.cond _ rfl (fun h13 => ?_) (fun h13 => ?_)
    · skip
      try simp only [Bool.and_true, Bool.true_and, decide_eq_true_eq, decide_eq_false_iff_not, Bool.and_eq_true, Bool.or_eq_true, Bool.and_eq_false_iff, Bool.or_eq_false_iff, Bool.not_eq_true', Bool.not_eq_false', beq_iff_eq, beq_eq_false_iff_ne, Int.not_lt, Int.not_le] at h13
      have hkl : k < l.length := by omega
      refine St.skip ?_
      refine St.then_normal ?_
      refine St.seq ?_
      refine St.block ?_
      refine St.seq ?_
      refine St.rq mixed (by kernel_rfl) (Mm.drawn _ _) ?_
      refine Sq.ev _ (Ev.move (Opd.mk rfl)) rfl ?_
      refine Sq.ev _ (Ev.move (Opd.mk rfl)) rfl ?_
      refine Sq.ev _ (Ev.idxaddrrow (k := k) (Opd.mk rfl) (Opd.mk rfl) Tryz.underlying23 sz9 (by omega) (by omega)) rfl ?_
      refine Sq.ev _ (Ev.ldrow (Opd.mk rfl) Tryz.underlying9 trivial (by omega) (rowE hkl)) rfl ?_
      refine Sq.ev _ (Ev.move (Opd.mk rfl)) rfl ?_
      refine Sq.ev _ (Ev.move (Opd.mk rfl)) rfl ?_
      refine Sq.ev _ (Ev.sub (Opd.mk rfl) (Opd.mk rfl) (by omega)) rfl ?_
      refine Sq.ev _ (Ev.idxaddrrow (k := (k - 1)) (Opd.mk rfl) (Opd.mk rfl) Tryz.underlying23 sz9 (by omega) (by omega)) rfl ?_
      refine Sq.ev _ (Ev.ldrow (Opd.mk rfl) Tryz.underlying9 trivial (by omega) (rowE (by omega))) rfl ?_
      refine Sq.ev _ (Ev.streq (Opd.mk rfl) (Opd.mk rfl)) rfl ?_
      refine Sq.nil ?_
      refine St.then_normal ?_
      refine St.cond _ rfl (fun h25 => ?_) (fun h25 => ?_)
      · skip
        rw [eqd] at h25
        refine St.seq ?_
        refine St.rg ?_
        refine St.ev _ (Ev.move (Opd.mk rfl)) rfl ?_
        refine St.ev _ (Ev.move (Opd.mk rfl)) rfl ?_
        refine St.ev _ (Ev.slicerow_l (l := k) (Opd.mk rfl) (Opd.mk rfl) Tryz.underlying23 sz9 rfl (by omega)) rfl ?_
        refine St.ev _ (Ev.assign (Opd.mk rfl)) rfl ?_
        refine St.nil ?_
        refine St.then_normal ?_
        refine St.seq ?_
        refine St.seq ?_
        refine St.rg ?_
        refine St.ev _ (Ev.assign (Opd.mk rfl)) rfl ?_
        refine St.nil ?_
        refine St.then_normal ?_
        refine St.block ?_
        refine St.loopH (ι := Nat × Nat × List Nat) (fun x T => (5, iv x.1) :: (3, iv x.2.1) :: T) (fun x => [row v 9 1 l.length (x.2.2.map (fun i => sv (en i)))]) (fun x => 1 ≤ x.1 ∧ CF eq l (k + x.1) x.2.1 x.2.2) (fun x => l.length - (k + x.1)) (1, k, l) (Keep.cons 0 rfl (Keep.cons 4 rfl Keep.nil)) ⟨Nat.le_refl _, CF.start eq (by omega) hkl hno h25⟩ (by repeat (first | exact Sub.nil | refine Sub.cons (by first | rfl | exact congrArg (fun z => some (iv z)) (by first | omega | (dsimp only; omega)) | exact congrArg (fun z => some (Value.bool z)) (by first | assumption | exact Eq.symm (by assumption))) ?_)) (fun _ hw => hw.sub) ?_
        rintro ⟨q, r, W⟩ ⟨hq1, hcf⟩
        dsimp only at hq1 hcf ⊢
        have hcf1 := hcf.kj
        have hcf2 := hcf.jl
        have hcf3 := hcf.len
        refine St.seq ?_
        refine St.seq ?_
        refine St.rg ?_
        refine St.ev _ (Ev.move (Opd.mk rfl)) rfl ?_
        refine St.ev _ (Ev.move (Opd.mk rfl)) rfl ?_
        refine St.ev _ (Ev.lenslv (Opd.mk rfl) Tryz.underlying23) rfl ?_
        refine St.ev _ (Ev.lss (Opd.mk rfl) (Opd.mk rfl)) rfl ?_
        refine St.nil ?_
        refine St.then_normal ?_
        refine St.cond _ rfl (fun h32 => ?_) (fun h32 => ?_)
        · skip
          try simp only [Bool.and_true, Bool.true_and, decide_eq_true_eq, decide_eq_false_iff_not, Bool.and_eq_true, Bool.or_eq_true, Bool.and_eq_false_iff, Bool.or_eq_false_iff, Bool.not_eq_true', Bool.not_eq_false', beq_iff_eq, beq_eq_false_iff_ne, Int.not_lt, Int.not_le] at h32
          have hql : k + q < l.length := by omega
          have e1 : (W.map (fun i => sv (en i)))[(k + q) * 1 + 0]? = some (sv (en (l.getD (k + q) 0))) := by rw [rowE (by omega), hcf.rest (k + q) (by omega)]
          have e2 : (W.map (fun i => sv (en i)))[(k + (q - 1)) * 1 + 0]? = some (sv (en (l.getD (k + q - 1) 0))) := by rw [rowE (by omega), hcf.rest (k + (q - 1)) (by omega), show k + (q - 1) = k + q - 1 by have := hcf.kj; omega]
          refine St.skip ?_
          refine St.then_normal ?_
          refine St.seq ?_
          refine St.block ?_
          refine St.seq ?_
          refine St.rq mixed (by kernel_rfl) (Mm.drawn _ _) ?_
          refine Sq.ev _ (Ev.move (Opd.mk rfl)) rfl ?_
          refine Sq.ev _ (Ev.move (Opd.mk rfl)) rfl ?_
          refine Sq.ev _ (Ev.idxaddrslv (j := q) (Opd.mk rfl) (Opd.mk rfl) Tryz.underlying23 sz9 rfl (by omega) (Nat.le_refl _)) rfl ?_
          refine Sq.ev _ (Ev.ldrow (Opd.mk rfl) Tryz.underlying9 trivial (by omega) e1) rfl ?_
          refine Sq.ev _ (Ev.move (Opd.mk rfl)) rfl ?_
          refine Sq.ev _ (Ev.move (Opd.mk rfl)) rfl ?_
          refine Sq.ev _ (Ev.sub (Opd.mk rfl) (Opd.mk rfl) (by omega)) rfl ?_
          refine Sq.ev _ (Ev.idxaddrslv (j := (q - 1)) (Opd.mk rfl) (Opd.mk rfl) Tryz.underlying23 sz9 (by omega) (by omega) (Nat.le_refl _)) rfl ?_
          refine Sq.ev _ (Ev.ldrow (Opd.mk rfl) Tryz.underlying9 trivial (by omega) e2) rfl ?_
          refine Sq.ev _ (Ev.strne (Opd.mk rfl) (Opd.mk rfl)) rfl ?_
          refine Sq.nil ?_
          refine St.then_normal ?_
          refine St.cond _ rfl (fun h44 => ?_) (fun h44 => ?_)
          · skip
            simp only [Bool.not_eq_true', Bool.not_eq_false', eqd] at h44
            refine St.seq ?_
            refine St.rg ?_
            refine St.ev _ (Ev.move (Opd.mk rfl)) rfl ?_
            refine St.ev _ (Ev.move (Opd.mk rfl)) rfl ?_
            refine St.ev _ (Ev.move (Opd.mk rfl)) rfl ?_
            refine St.ev _ (Ev.move (Opd.mk rfl)) rfl ?_
            refine St.ev _ (Ev.idxaddrslv (j := q) (Opd.mk rfl) (Opd.mk rfl) Tryz.underlying23 sz9 rfl (by omega) (Nat.le_refl _)) rfl ?_
            refine St.ev _ (Ev.ldrow (Opd.mk rfl) Tryz.underlying9 trivial (by omega) e1) rfl ?_
            refine St.ev _ (Ev.idxaddrrow (k := r) (Opd.mk rfl) (Opd.mk rfl) Tryz.underlying23 sz9 (by omega) (by omega)) rfl ?_
            refine St.storerow (Opd.mk rfl) (Opd.mk rfl) sz9 rfl (by omega) (by decide) ?_
            refine St.rowEq v (rowE_set (fun i => sv (en i)) _ _ _) ?_
            refine St.nil ?_
            refine St.then_normal ?_
            refine St.rg ?_
            refine St.ev _ (Ev.move (Opd.mk rfl)) rfl ?_
            refine St.ev _ (Ev.add (Opd.mk rfl) (Opd.mk rfl) (by omega)) rfl ?_
            refine St.ev _ (Ev.assign (Opd.mk rfl)) rfl ?_
            refine St.nil ?_
            refine St.in_normal ?_
            refine St.then_normal ?_
            refine St.rg ?_
            refine St.ev _ (Ev.move (Opd.mk rfl)) rfl ?_
            refine St.ev _ (Ev.add (Opd.mk rfl) (Opd.mk rfl) (by omega)) rfl ?_
            refine St.ev _ (Ev.assign (Opd.mk rfl)) rfl ?_
            refine St.nil ?_
            refine St.then_normal ?_
            refine St.againH (q + 1, r + 1, W.set r (l.getD (k + q) 0)) ⟨by show 1 ≤ q + 1; omega, hcf.keep eq hql h44⟩ (by show l.length - (k + (q + 1)) < l.length - (k + q); omega) (by repeat (first | exact Sub.nil | refine Sub.cons (by first | rfl | exact congrArg (fun z => some (iv z)) (by first | omega | (dsimp only; omega)) | exact congrArg (fun z => some (Value.bool z)) (by first | assumption | exact Eq.symm (by assumption))) ?_)) (fun _ hw => hw.sub)
          · skip
            simp only [Bool.not_eq_true', Bool.not_eq_false', eqd] at h44
            refine St.skip ?_
            refine St.in_normal ?_
            refine St.then_normal ?_
            refine St.rg ?_
            refine St.ev _ (Ev.move (Opd.mk rfl)) rfl ?_
            refine St.ev _ (Ev.add (Opd.mk rfl) (Opd.mk rfl) (by omega)) rfl ?_
            refine St.ev _ (Ev.assign (Opd.mk rfl)) rfl ?_
            refine St.nil ?_
            refine St.then_normal ?_
            refine St.againH (q + 1, r, W) ⟨by show 1 ≤ q + 1; omega, hcf.skip eq hql h44⟩ (by show l.length - (k + (q + 1)) < l.length - (k + q); omega) (by repeat (first | exact Sub.nil | refine Sub.cons (by first | rfl | exact congrArg (fun z => some (iv z)) (by first | omega | (dsimp only; omega)) | exact congrArg (fun z => some (Value.bool z)) (by first | assumption | exact Eq.symm (by assumption))) ?_)) (fun _ hw => hw.sub)
        · skip
          try simp only [Bool.and_true, Bool.true_and, decide_eq_true_eq, decide_eq_false_iff_not, Bool.and_eq_true, Bool.or_eq_true, Bool.and_eq_false_iff, Bool.or_eq_false_iff, Bool.not_eq_true', Bool.not_eq_false', beq_iff_eq, beq_eq_false_iff_ne, Int.not_lt, Int.not_le] at h32
          have hkq : k + q = l.length := by omega
          have hout := hcf.out
          have hnum := hcf.num
          rw [hkq, List.take_length] at hout hnum
          refine St.exit ?_
          refine St.then_exit ?_
          refine St.then_exit ?_
          refine St.in_hit ?_
          refine St.then_normal ?_
          refine St.seq ?_
          refine St.rg ?_
          refine St.ev _ (Ev.move (Opd.mk rfl)) rfl ?_
          refine St.ev _ (Ev.move (Opd.mk rfl)) rfl ?_
          refine St.ev _ (Ev.slicerow_l (l := r) (Opd.mk rfl) (Opd.mk rfl) Tryz.underlying23 sz9 rfl (by omega)) rfl ?_
          refine St.clearslv (Opd.mk rfl) Tryz.underlying23 zv9 rfl rfl (by omega) rfl ?_
          refine St.nil ?_
          refine St.then_normal ?_
          refine St.seq ?_
          refine St.rg ?_
          refine St.ev _ (Ev.move (Opd.mk rfl)) rfl ?_
          refine St.ev _ (Ev.move (Opd.mk rfl)) rfl ?_
          refine St.ev _ (Ev.slicerow_h (h := r) (Opd.mk rfl) (Opd.mk rfl) Tryz.underlying23 sz9 (by omega) (by omega)) rfl ?_
          refine St.ev _ (Ev.assign (Opd.mk rfl)) rfl ?_
          refine St.nil ?_
          refine St.then_normal ?_
          refine St.rett ?_
          refine St.in_ret ?_
          refine St.then_ret ?_
          refine St.then_ret ?_
          refine St.in_ret ?_
          refine St.then_ret ?_
          refine St.rowCut v r (by omega) ?_
          refine St.rowOne (slv v 1 0 r) (fun hos _ => ?_)
          refine St.rowEqN (slv v 1 0 r) hnum (show _ = (dd eq l).map (fun i => sv (en i)) by rw [Nat.mul_one, List.take_append_of_le_length (by rw [List.length_take, List.length_map]; omega), List.take_take, Nat.min_self, ← List.map_take, hout]) ?_
          refine St.rets [_] [row (slv v 1 0 r) 9 1 (dd eq l).length ((dd eq l).map (fun i => sv (en i)))] Tryz.results29 ⟨rfl, trivial⟩ ?_ (fun _ hw => hw.sub)
          exact ⟨hos, rfl⟩
      · skip
        rw [eqd] at h25
        refine St.skip ?_
        refine St.in_normal ?_
        refine St.then_normal ?_
        refine St.rg ?_
        refine St.ev _ (Ev.move (Opd.mk rfl)) rfl ?_
        refine St.ev _ (Ev.add (Opd.mk rfl) (Opd.mk rfl) (by omega)) rfl ?_
        refine St.ev _ (Ev.assign (Opd.mk rfl)) rfl ?_
        refine St.nil ?_
        refine St.then_normal ?_
        refine St.againS (k + 1) ⟨by omega, by omega, fun j h1 h2 => by rcases Nat.lt_or_ge j k with q | q; exact hno j h1 q; obtain rfl : j = k := (by omega); exact h25⟩ (by first | omega | (dsimp only; omega)) (by repeat (first | exact Sub.nil | refine Sub.cons (by first | rfl | exact congrArg (fun z => some (iv z)) (by first | omega | (dsimp only; omega)) | exact congrArg (fun z => some (Value.bool z)) (by first | assumption | exact Eq.symm (by assumption))) ?_)) (fun _ hw => hw.sub)
    · skip
      try simp only [Bool.and_true, Bool.true_and, decide_eq_true_eq, decide_eq_false_iff_not, Bool.and_eq_true, Bool.or_eq_true, Bool.and_eq_false_iff, Bool.or_eq_false_iff, Bool.not_eq_true', Bool.not_eq_false', beq_iff_eq, beq_eq_false_iff_ne, Int.not_lt, Int.not_le] at h13
      have hdd := dd_none eq (l := l) l.length (Nat.le_refl _) (fun j h1 h2 => hno j h1 (by omega))
      rw [List.take_length] at hdd
      refine St.exit ?_
      refine St.then_exit ?_
      refine St.then_exit ?_
      refine St.in_hit ?_
      refine St.then_normal ?_
      refine St.seq ?_
      refine St.rg ?_
      refine St.ev _ (Ev.move (Opd.mk rfl)) rfl ?_
      refine St.ev _ (Ev.assign (Opd.mk rfl)) rfl ?_
      refine St.nil ?_
      refine St.then_normal ?_
      refine St.rett ?_
      refine St.rets [_] [row v 9 1 l.length (l.map (fun i => sv (en i)))] Tryz.results29 ⟨rfl, trivial⟩ ?_ (fun _ hw => hw.sub)
      rw [hdd]; exact ⟨hov, rfl⟩

end Go.Proofs.YtgikcbfdonjggaaGreatDoor

/-
  (YtgikcbfdonjggaaGreatDoorConQ)
  The different words of sentences, in order; what an index holds: plain facts, no program stands here.
  Conditions: none.
-/
namespace Go.J
open Go
def sortW (xs : List Str) : List Str := xs.mergeSort fun x y => decide (x ≤ y)
theorem sle_iff (x y : Str) : (decide (x ≤ y) = true) ↔ Op.bytesLess y x = false := by
  rw [decide_eq_true_eq, ← List.not_lt, Go.Proofs.bytesLess_eq, decide_eq_false_iff_not]
theorem sortW_perm (xs : List Str) : (sortW xs).Perm xs := List.mergeSort_perm _ _
theorem sortW_sorted (xs : List Str) : (sortW xs).Pairwise fun a b => Op.bytesLess b a = false := by
  have h := List.pairwise_mergeSort (le := fun x y : Str => decide (x ≤ y)) (fun a b c h1 h2 => by
    rw [sle_iff] at h1 h2 ⊢
    cases h3 : Op.bytesLess c a with
    | false => rfl
    | true =>
      rcases slt_tri a b with t | t | t
      · have := slt_trans h3 t; rw [h2] at this; cases this
      · subst t; rw [h2] at h3; cases h3
      · rw [h1] at t; cases t) (fun a b => by
    rw [Bool.or_eq_true, sle_iff, sle_iff]
    cases h3 : Op.bytesLess b a with
    | false => exact .inl rfl
    | true => exact .inr (slt_asymm h3)) xs
  exact h.imp fun h => (sle_iff _ _).1 h
def enW (xs : List Str) (i : Nat) : Str := xs.getD i []
def ddW (xs : List Str) : List Str := (dd (fun a b => enW xs a == enW xs b) (List.range xs.length)).map (enW xs)
theorem range_enW (xs : List Str) : (List.range xs.length).map (enW xs) = xs := by
  apply List.ext_getElem
  · simp
  · intro i h1 h2
    rw [List.getElem_map, List.getElem_range]
    unfold enW
    rw [List.getD_eq_getElem?_getD, List.getElem?_eq_getElem h2]; rfl
theorem wlt_one (a b : Str) : wlt [a] [b] = Op.bytesLess a b := by simp [wlt]
theorem ddW_spec {xs : List Str} (hs : xs.Pairwise fun a b => Op.bytesLess b a = false) : SSt (ddW xs) ∧ ∀ w, w ∈ ddW xs ↔ w ∈ xs := by
  have e : (fun a b => enW xs a == enW xs b) = eqf fun i => [enW xs i] := by
    funext a b
    unfold eqf
    rw [Bool.eq_iff_iff]; simp
  have hp : (List.range xs.length).Pairwise fun a b => wlt [enW xs b] [enW xs a] = false := by
    rw [← range_enW xs] at hs
    exact (List.pairwise_map.1 hs).imp fun h => by rw [wlt_one]; exact h
  obtain ⟨h1, h2⟩ := dd_inc (fun i => [enW xs i]) hp
  unfold ddW
  rw [e]
  refine ⟨List.pairwise_map.2 (h1.imp fun h => by rw [wlt_one] at h; exact h), fun w => ?_⟩
  constructor
  · intro h
    obtain ⟨i, hi, rfl⟩ := List.mem_map.1 h
    have := List.mem_range.1 (dd_sub _ hi)
    unfold enW
    rw [List.getD_eq_getElem?_getD, List.getElem?_eq_getElem this]; exact List.getElem_mem this
  · intro h
    obtain ⟨i, hi, rfl⟩ := List.mem_iff_getElem.1 h
    obtain ⟨y, hy, he⟩ := h2 i (List.mem_range.2 hi)
    refine List.mem_map.2 ⟨y, hy, ?_⟩
    simp only [List.cons.injEq, and_true] at he
    rw [he]
    unfold enW
    rw [List.getD_eq_getElem?_getD, List.getElem?_eq_getElem hi]; rfl
theorem ddW_len (xs : List Str) : (ddW xs).length ≤ xs.length := by
  unfold ddW
  rw [List.length_map]
  have := dd_len (fun a b => enW xs a == enW xs b) (List.range xs.length)
  rwa [List.length_range] at this
def wordsOf (l : List (List Str)) : List Str := ddW (sortW l.flatten)
theorem wordsOf_sst (l : List (List Str)) : SSt (wordsOf l) := (ddW_spec (sortW_sorted _)).1
theorem wordsOf_mem (l : List (List Str)) (w : Str) : w ∈ wordsOf l ↔ ∃ s ∈ l, w ∈ s := by
  rw [wordsOf, (ddW_spec (sortW_sorted _)).2, (sortW_perm _).mem_iff, List.mem_flatten]
theorem flatten_le {l : List (List Str)} {m : Nat} (h : ∀ s ∈ l, s.length ≤ m) : l.flatten.length ≤ m * l.length := by
  induction l with
  | nil => simp
  | cons s l ih =>
    simp only [List.flatten_cons, List.length_append, List.length_cons, Nat.mul_add, Nat.mul_one]
    have := ih fun x hx => h x (List.mem_cons_of_mem _ hx)
    have := h s (List.mem_cons_self ..)
    omega
theorem sortW_len (xs : List Str) : (sortW xs).length = xs.length := (sortW_perm xs).length_eq
theorem wordsOf_len {l : List (List Str)} (h : Corp l) : (wordsOf l).length ≤ 1200 := by
  have h1 := ddW_len (sortW l.flatten)
  rw [sortW_len] at h1
  have h2 := flatten_le (m := 12) fun s hs => (h.each s hs).2.1
  have := h.len
  unfold wordsOf
  omega
/-- the numbers of an index -/
def numsOf (l : List (List Str)) : List Nat := ptsOf (numOf (wordsOf l)) l
theorem ptsOf_len (f : Str → Nat) : ∀ l : List (List Str), (ptsOf f l).length = l.flatten.length + l.length
  | [] => rfl
  | s :: l => by
    have := ptsOf_len f l
    simp only [ptsOf, List.flatMap_cons, List.length_append, List.length_map, List.length_singleton, List.flatten_cons, List.length_cons, List.length_nil] at this ⊢
    omega
theorem numsOf_len {l : List (List Str)} (h : Corp l) : (numsOf l).length ≤ 1300 := by
  unfold numsOf
  rw [ptsOf_len]
  have h2 := flatten_le (m := 12) fun s hs => (h.each s hs).2.1
  have := h.len
  omega
theorem numsOf_le {l : List (List Str)} (h : Corp l) : ∀ x ∈ numsOf l, x ≤ 1200 := by
  intro x hx
  obtain ⟨s, _, hx⟩ := List.mem_flatMap.1 hx
  rcases List.mem_append.1 hx with q | q
  · obtain ⟨w, _, rfl⟩ := List.mem_map.1 q
    exact Nat.le_trans (numOf_le _ _) (wordsOf_len h)
  · rw [List.mem_singleton.1 q]; exact Nat.zero_le _
theorem ptsOf_snoc (f : Str → Nat) (l : List (List Str)) (s : List Str) : ptsOf f (l ++ [s]) = ptsOf f l ++ (s.map f ++ [0]) := by simp [ptsOf]
theorem plcFrom_snoc (s : List Str) : ∀ (l : List (List Str)) (i : Nat), plcFrom i (l ++ [s]) = plcFrom i l ++ (List.range (s.length + 1)).map fun k => (i + l.length, k)
  | [], i => by simp [plcFrom]
  | x :: l, i => by
    simp only [List.cons_append, plcFrom, plcFrom_snoc s l (i + 1), List.append_assoc, List.length_cons]
    rw [show i + 1 + l.length = i + (l.length + 1) by omega]
theorem plcFrom_mem : ∀ {l : List (List Str)} {i : Nat} {h : Nat × Nat}, h ∈ plcFrom i l → i ≤ h.1 ∧ h.1 < i + l.length ∧ ∃ s ∈ l, h.2 ≤ s.length
  | [], _, _, hh => by cases hh
  | s :: l, i, h, hh => by
    rcases List.mem_append.1 hh with q | q
    · obtain ⟨k, hk, rfl⟩ := List.mem_map.1 q
      have := List.mem_range.1 hk
      exact ⟨Nat.le_refl _, by simp, s, List.mem_cons_self .., by omega⟩
    · obtain ⟨h1, h2, s', hs', h3⟩ := plcFrom_mem q
      exact ⟨by omega, by simp only [List.length_cons]; omega, s', List.mem_cons_of_mem _ hs', h3⟩
/-- what find returns -/
theorem find_all {l : List (List Str)} {p : List Str} (hp : p ≠ []) : (if (0 : Nat) ∈ p.map (numOf (wordsOf l)) then [] else ((List.range (numsOf l).length).filter fun i => decide (((numsOf l).drop i).take (p.map (numOf (wordsOf l))).length = p.map (numOf (wordsOf l)))).map (fun i => (plcFrom 0 l).getD i (0, 0))) = hitsOf l p := by
  split
  · rename_i h0
    exact (hits_none h0 l 0 fun s hs w hw => numOf_mem (wordsOf_sst l) ((wordsOf_mem l w).2 ⟨s, hs, hw⟩)).symm
  · rename_i h0
    exact find_hits hp h0
end Go.J

/-
  (YtgikcbfdonjggaaGreatDoorC4)
  The walks of building an index and of finding a part.
  Conditions: none beyond the sizes.
-/
set_option maxRecDepth 20000
set_option linter.unusedSimpArgs false
set_option linter.unusedVariables false
namespace Go.Proofs.YtgikcbfdonjggaaGreatDoor
open Go Go.J

def hitR : Rp (Nat × Nat) := ⟨2, by decide, fun x => [iv (x.1 : Nat), iv (x.2 : Nat)], fun _ => True, fun _ => rfl, fun _ u h => by simp at h; rcases h with rfl | rfl <;> rfl⟩
instance (x : Nat × Nat) : Cel hitR x [iv (x.1 : Nat), iv (x.2 : Nat)] := ⟨rfl⟩
noncomputable abbrev idxL (vl vw vp vo vz : Value) (l : List (List Str)) : List Dat := [nsl strR vl l, sl strR vw (wordsOf l), sl intR vp (ints (numsOf l)), sl intR vo (ints (sufOf (ints (numsOf l)))), sl hitR vz (plcFrom 0 l)]
/-- what an index holds -/
noncomputable def idxD (vl vw vp vo vz : Value) (l : List (List Str)) : Dat := allD (idxL vl vw vp vo vz l)
abbrev idxV (vl vw vp vo vz : Value) : Value := .agg #[vl, vw, vp, vo, vz]
def okL (l : List (List Str)) : List (List Str) := if (conF l).1 = 0 then l else []
theorem okL_t {l : List (List Str)} (h : (conF l).1 = 0) : okL l = l := by unfold okL; rw [if_pos h]
theorem okL_f {l : List (List Str)} (h : (conF l).1 ≠ 0) : okL l = [] := by unfold okL; rw [if_neg h]
theorem okL_corp (l : List (List Str)) : Corp (okL l) := by
  by_cases h : (conF l).1 = 0
  · rw [okL_t h]; exact (conF_ok h).2
  · rw [okL_f h]; exact Corp.nil
theorem sFault_good {p : List Int} (h1 : p.length ≤ 2000) (h2 : ∀ x ∈ p, 0 ≤ x ∧ x ≤ 1114111) : sFault p = (0, 0) := by
  have key : ∀ (l : List Int) (k : Int), (∀ x ∈ l, 0 ≤ x ∧ x ≤ 1114111) → sfFrom k l = (0, 0) := by
    intro l
    induction l with
    | nil => intro k _; rfl
    | cons x l ih =>
      intro k h
      have := h x (List.mem_cons_self ..)
      rw [sfFrom, if_neg (by omega)]
      exact ih _ fun y hy => h y (List.mem_cons_of_mem _ hy)
  unfold sFault
  rw [if_neg (by omega)]
  exact key p 0 h2
theorem nums_good {l : List (List Str)} (h : Corp l) : sFault (ints (numsOf l)) = (0, 0) := by
  refine sFault_good (by have := numsOf_len h; rw [ints_length]; omega) fun x hx => ?_
  obtain ⟨n, hn, rfl⟩ := List.mem_map.1 hx
  have := numsOf_le h n hn
  omega
theorem idx_nil (ρ : Ro) : (idxD (.slice none 0 0) (.slice none 0 0) (.slice none 0 0) (.slice none 0 0) (.slice none 0 0) []).f ρ := by
  have e1 : wordsOf [] = [] := by
    have h := ddW_len (sortW ([] : List (List Str)).flatten)
    rw [sortW_len] at h
    exact List.eq_nil_of_length_eq_zero (by unfold wordsOf; simpa using h)
  have e2 : numsOf [] = [] := rfl
  have e3 : sufOf (ints []) = [] := List.eq_nil_of_length_eq_zero (by rw [suf_len]; rfl)
  unfold idxD allD
  intro d hd
  simp only [idxL, e1, e2, e3, plcFrom, List.mem_cons, List.not_mem_nil, or_false] at hd
  rcases hd with rfl | rfl | rfl | rfl | rfl
  · exact ⟨[], rfl, sl_nil _ _, fun i u l h => by simp at h⟩
  · exact sl_nil _ _
  · exact sl_nil _ _
  · exact sl_nil _ _
  · exact sl_nil _ _
theorem rowsI_snoc {X Y : List Nat} {n : Nat} (h : Y = X ++ [n]) : rows intR (ints X) ++ [iv (n : Nat)] = rows intR (ints Y) := by rw [h, ints_snoc, rows_snoc]; rfl
theorem rowsH_snoc {X Y : List (Nat × Nat)} {n : Nat × Nat} (h : Y = X ++ [n]) : rows hitR X ++ [iv (n.1 : Nat), iv (n.2 : Nat)] = rows hitR Y := by rw [h, rows_snoc]; rfl
theorem rows_words (xs : List Str) : rows strR xs = (List.range xs.length).map (fun i => sv (enW xs i)) := by
  rw [rows_strR]
  conv => lhs; rw [← range_enW xs]
  rw [List.map_map]; rfl
theorem rows_dd (xs : List Str) : (dd (fun a b => enW xs a == enW xs b) (List.range xs.length)).map (fun i => sv (enW xs i)) = rows strR (ddW xs) := by
  rw [rows_strR, ddW, List.map_map]; rfl
theorem map_step {s : List Str} {k : Nat} {w : Str} (hw : s[k]? = some w) (f : Str → Nat) (X : List Nat) : X ++ (s.take (k + 1)).map f = (X ++ (s.take k).map f) ++ [f w] := by rw [take_of_some hw]; simp
theorem plc_step (i k : Nat) (X : List (Nat × Nat)) : X ++ (List.range (k + 1)).map (fun k => (i, k)) = (X ++ (List.range k).map (fun k => (i, k))) ++ [(i, k)] := by rw [List.range_succ]; simp
theorem nums_step {l : List (List Str)} {i : Nat} {s : List Str} (hs : l[i]? = some s) (f : Str → Nat) : ptsOf f (l.take (i + 1)) = (ptsOf f (l.take i) ++ s.map f) ++ [0] := by rw [take_of_some hs, ptsOf_snoc, List.append_assoc]
theorem plcs_step {l : List (List Str)} {i : Nat} {s : List Str} (hs : l[i]? = some s) : plcFrom 0 (l.take (i + 1)) = (plcFrom 0 (l.take i) ++ (List.range s.length).map (fun k => (i, k))) ++ [(i, s.length)] := by
  have hi := lt_of_some hs
  rw [take_of_some hs, plcFrom_snoc, List.range_succ, List.length_take, Nat.min_eq_left (by omega)]; simp
theorem pts_take_len {l : List (List Str)} (h : Corp l) (i : Nat) (f : Str → Nat) : (ptsOf f (l.take i)).length ≤ 1300 := by
  rw [ptsOf_len]
  have h2 := flatten_le (l := l.take i) (m := 12) fun s hs => (h.each s (List.mem_of_mem_take hs)).2.1
  have := h.len
  have : (l.take i).length ≤ l.length := List.length_take_le' ..
  omega
theorem plc_take_len {l : List (List Str)} (h : Corp l) (i : Nat) : (plcFrom 0 (l.take i)).length ≤ 1300 := by
  rw [plc_length (fun _ => 0)]; exact pts_take_len h i _
theorem flat_take_len {l : List (List Str)} (h : Corp l) (i : Nat) : (l.take i).flatten.length ≤ 1200 := by
  have h2 := flatten_le (l := l.take i) (m := 12) fun s hs => (h.each s (List.mem_of_mem_take hs)).2.1
  have := h.len
  have : (l.take i).length ≤ l.length := List.length_take_le' ..
  omega
theorem flat_step {l : List (List Str)} {i : Nat} {s : List Str} (hs : l[i]? = some s) : (l.take (i + 1)).flatten = (l.take i).flatten ++ s := by rw [take_of_some hs]; simp
theorem mem_get {l : List (List Str)} (h : Corp l) {i : Nat} {s : List Str} (hs : l[i]? = some s) : s.length ≤ 12 := (h.each s (List.mem_of_getElem? hs)).2.1

set_option maxHeartbeats 4000000 in
theorem Build_cspec (v0 : Value) (l : List (List Str)) : FnW Tryz.prog 11 #[v0] ([nsl strR v0 l, u8].map dat) (fun u H' => ∃ vl vw vp vo vz, u = .tuple #[idxV vl vw vp vo vz, fv (conF l)] ∧ vl.oneCell' = true ∧ vw.oneCell' = true ∧ vp.oneCell' = true ∧ vo.oneCell' = true ∧ vz.oneCell' = true ∧ H' = [dat (idxD vl vw vp vo vz (okL l))]) := by
  refine FnW.body (args := [v0]) 117 Tryz.func11 rfl Tryz.ntmps11 rfl (fun c hdr => ?_)
  refine St.seq ?_
  refine St.cast (H' := [dat (nsl strR v0 l), dat u8]) rfl ?_
  refine St.openNs v0 (fun vs hvl => ?_)
  refine St.wf v0 (fun hwf hlen => ?_)
  refine St.ptwWf vs hvl (fun hwfl => ?_)
  refine St.rg ?_
  refine St.alloc zc28 rfl (fun b2 => ?_)
  refine St.alloc zc30 rfl (fun b3 => ?_)
  refine St.nil ?_
  refine St.then_normal ?_
  refine St.seq ?_
  refine St.seq ?_
  refine St.rg ?_
  refine St.ev _ (Ev.move (Opd.mk rfl)) rfl ?_
  refine St.ev _ (Ev.lensl (Opd.mk rfl) Tryz.underlying22) rfl ?_
  refine St.ev _ (Ev.gtr (Opd.mk rfl) (Opd.mk rfl)) rfl ?_
  refine St.nil ?_
  refine St.then_normal ?_
  refine St.cond _ rfl (fun h16 => ?_) (fun h16 => ?_)
  · skip
    try simp only [Bool.and_true, Bool.true_and, decide_eq_true_eq, decide_eq_false_iff_not, Bool.and_eq_true, Bool.or_eq_true, Bool.and_eq_false_iff, Bool.or_eq_false_iff, Bool.not_eq_true', Bool.not_eq_false', beq_iff_eq, beq_eq_false_iff_ne, Int.not_lt, Int.not_le] at h16
    have hbig : conF l = (2, -1) := by unfold conF; rw [if_pos (by omega)]
    refine St.seq ?_
    refine St.rg ?_
    refine St.ev _ (Ev.build (ps := []) (Opds.nil) (fun w => bld28_  w)) rfl ?_
    refine St.ev _ (Ev.build (ps := [(0, (Operand.const (Value.int IntKind.i64 2))), (1, (Operand.const (Value.int IntKind.i64 (-1))))]) (Opds.cons (Opd.mk rfl) (Opds.cons (Opd.mk rfl) Opds.nil)) (fun w => bld30_0_1 rfl rfl w)) rfl ?_
    refine St.storeA (Opd.mk rfl) (Opd.mk rfl) sz28 (by first | simp only [List.length_cons, List.length_nil] | rfl) rfl ?_
    refine St.storeA (Opd.mk rfl) (Opd.mk rfl) sz30 (by first | simp only [List.length_cons, List.length_nil] | rfl) rfl ?_
    refine St.nil ?_
    refine St.then_normal ?_
    refine St.rett ?_
    refine St.then_ret ?_
    refine St.fact _ (fun ρ _ _ => idx_nil ρ) ?_
    refine St.rets [_, _] [dat (idxD (.slice none 0 0) (.slice none 0 0) (.slice none 0 0) (.slice none 0 0) (.slice none 0 0) [])] Tryz.results11 ⟨⟨_, _, _, _, rfl, InB.mem, .inl ⟨⟨_, Tryz.underlying28⟩, sz28, rfl⟩⟩, ⟨⟨_, _, _, _, rfl, InB.mem, .inl ⟨⟨_, Tryz.underlying30⟩, sz30, rfl⟩⟩, trivial⟩⟩ ?_ (fun _ hw => hw.sub)
    rw [okL_f (by rw [hbig]; decide), hbig]; exact ⟨_, _, _, _, _, rfl, rfl, rfl, rfl, rfl, rfl, rfl⟩
  · skip
    try simp only [Bool.and_true, Bool.true_and, decide_eq_true_eq, decide_eq_false_iff_not, Bool.and_eq_true, Bool.or_eq_true, Bool.and_eq_false_iff, Bool.or_eq_false_iff, Bool.not_eq_true', Bool.not_eq_false', beq_iff_eq, beq_eq_false_iff_ne, Int.not_lt, Int.not_le] at h16
    refine St.skip ?_
    refine St.then_normal ?_
    refine St.seq ?_
    refine St.seq ?_
    refine St.rg ?_
    refine St.ev _ (Ev.move (Opd.mk rfl)) rfl ?_
    refine St.ev _ (Ev.lensl (Opd.mk rfl) Tryz.underlying22) rfl ?_
    refine St.ev _ (Ev.move (Opd.mk rfl)) rfl ?_
    refine St.nil ?_
    refine St.then_normal ?_
    refine St.block ?_
    refine St.loopS (ι := Nat) (fun k T => (21, iv k) :: T) (fun k => k ≤ l.length ∧ conF l = conFrom k (l.drop k)) (fun k => l.length - k) 0 (Keep.cons 0 rfl (Keep.cons 2 rfl (Keep.cons 3 rfl (Keep.cons 19 rfl (Keep.cons 20 rfl Keep.nil))))) ⟨Nat.zero_le _, by unfold conF; rw [if_neg (by omega)]; rfl⟩ (by repeat (first | exact Sub.nil | refine Sub.cons (by first | rfl | exact congrArg (fun z => some (iv z)) (by first | omega | (dsimp only; omega)) | exact congrArg (fun z => some (Value.bool z)) (by first | assumption | exact Eq.symm (by assumption))) ?_)) ?_
    intro k hphi
    obtain ⟨hk, hv⟩ := hphi
    refine St.seq ?_
    refine St.rg ?_
    refine St.ev _ (Ev.lss (Opd.mk rfl) (Opd.mk rfl)) rfl ?_
    refine St.nil ?_
    refine St.then_normal ?_
    refine St.seq ?_
    refine St.cond _ rfl (fun h22 => ?_) (fun h22 => ?_)
    · skip
      try simp only [Bool.and_true, Bool.true_and, decide_eq_true_eq, decide_eq_false_iff_not, Bool.and_eq_true, Bool.or_eq_true, Bool.and_eq_false_iff, Bool.or_eq_false_iff, Bool.not_eq_true', Bool.not_eq_false', beq_iff_eq, beq_eq_false_iff_ne, Int.not_lt, Int.not_le] at h22
      obtain ⟨s, hs⟩ := some_of_lt (show k < l.length by omega)
      obtain ⟨u, hu⟩ := some_of_lt (show k < vs.length by omega)
      refine St.ptw (vs := vs) k hu hs ?_
      refine St.skip ?_
      refine St.then_normal ?_
      refine St.seq ?_
      refine St.block ?_
      refine St.seq ?_
      refine St.rg ?_
      refine St.ev _ (Ev.move (Opd.mk rfl)) rfl ?_
      refine St.ev _ (Ev.idxaddr (k := k) (Opd.mk rfl) (Opd.mk rfl) Tryz.underlying22 sz23 (by omega) (by omega)) rfl ?_
      refine St.ev _ (Ev.ld1 (Opd.mk rfl) hu Tryz.underlying23 trivial rfl) rfl ?_
      refine St.ev _ (Ev.assign (Opd.mk rfl)) rfl ?_
      refine St.ev _ (Ev.assign (Opd.mk rfl)) rfl ?_
      refine St.nil ?_
      refine St.then_normal ?_
      refine St.seq ?_
      refine St.rg ?_
      refine St.ev _ (Ev.move (Opd.mk rfl)) rfl ?_
      refine St.ev _ (Ev.move (Opd.mk rfl)) rfl ?_
      refine St.ev _ (Ev.callW hdr (Sentence_spec u.1 s k) cb26 (Opds.cons (Opd.mk rfl) (Opds.cons (Opd.mk rfl) Opds.nil))) rfl ?_
      refine St.alloc zc30 rfl (fun b6 => ?_)
      refine St.storeA (Opd.mk rfl) (Opd.mk rfl) sz30 (by first | simp only [List.length_cons, List.length_nil] | rfl) rfl ?_
      refine St.nil ?_
      refine St.then_normal ?_
      refine St.seq ?_
      refine St.rg ?_
      refine St.ev _ (Ev.fldb0 (Opd.mk rfl) fo30_0) rfl ?_
      refine St.ev _ (Ev.ldb (Opd.mk rfl) Tryz.underlying3 trivial (by rfl)) rfl ?_
      refine St.ev _ (Ev.neq (Opd.mk rfl) (Opd.mk rfl)) rfl ?_
      refine St.nil ?_
      refine St.then_normal ?_
      refine St.cond _ rfl (fun h31 => ?_) (fun h31 => ?_)
      · skip
        try simp only [Bool.and_true, Bool.true_and, decide_eq_true_eq, decide_eq_false_iff_not, Bool.and_eq_true, Bool.or_eq_true, Bool.and_eq_false_iff, Bool.or_eq_false_iff, Bool.not_eq_true', Bool.not_eq_false', beq_iff_eq, beq_eq_false_iff_ne, Int.not_lt, Int.not_le] at h31
        have hcb : conF l = sentF s k := by rw [hv, conFrom_step hs, if_pos h31]
        refine St.seq ?_
        refine St.par [b2, b3] mixed ?_
        refine SW.defer 0 (by repeat (first | refine NP.then ?_ | refine NP.inBlock ?_ | exact NP.body)) (by kernel_rfl) rfl (fun R => Ev.build (ps := []) (Opds.nil) (fun w => bld28_  w)) (by kernel_rfl) rfl ?_
        refine SW.defer 1 (by repeat (first | refine NP.then ?_ | refine NP.inBlock ?_ | exact NP.body)) (by kernel_rfl) rfl (fun R => Ev.ldbA (Opd.mk rfl) Tryz.underlying30 trivial (by exact sz30)) (by kernel_rfl) rfl ?_
        refine SW.turn1 (i := 2) (by kernel_rfl) rfl ?_
        refine St.storeA (Opd.mk rfl) (Opd.mk rfl) sz28 (by first | simp only [List.length_cons, List.length_nil] | rfl) rfl ?_
        refine St.nil ?_
        refine St.then_normal ?_
        refine SW.go ?_
        refine SW.turn1 (i := 3) (by kernel_rfl) rfl ?_
        refine St.storeA (Opd.mk rfl) (Opd.mk rfl) sz30 (by first | simp only [List.length_cons, List.length_nil] | rfl) rfl ?_
        refine St.nil ?_
        refine St.then_normal ?_
        refine SW.go ?_
        refine SW.done (by kernel_rfl) ?_
        refine St.then_normal ?_
        refine St.rett ?_
        refine St.in_ret ?_
        refine St.then_ret ?_
        refine St.then_ret ?_
        refine St.in_ret ?_
        refine St.then_ret ?_
        refine St.fact _ (fun ρ _ _ => idx_nil ρ) ?_
        refine St.rets [_, _] [dat (idxD (.slice none 0 0) (.slice none 0 0) (.slice none 0 0) (.slice none 0 0) (.slice none 0 0) [])] Tryz.results11 ⟨⟨_, _, _, _, rfl, InB.mem, .inl ⟨⟨_, Tryz.underlying28⟩, sz28, rfl⟩⟩, ⟨⟨_, _, _, _, rfl, InB.mem, .inl ⟨⟨_, Tryz.underlying30⟩, sz30, rfl⟩⟩, trivial⟩⟩ ?_ (fun _ hw => hw.sub)
        rw [okL_f (by rw [hcb]; exact h31), hcb]; exact ⟨_, _, _, _, _, rfl, rfl, rfl, rfl, rfl, rfl, rfl⟩
      · skip
        try simp only [Bool.and_true, Bool.true_and, decide_eq_true_eq, decide_eq_false_iff_not, Bool.and_eq_true, Bool.or_eq_true, Bool.and_eq_false_iff, Bool.or_eq_false_iff, Bool.not_eq_true', Bool.not_eq_false', beq_iff_eq, beq_eq_false_iff_ne, Int.not_lt, Int.not_le] at h31
        refine St.skip ?_
        refine St.in_normal ?_
        refine St.then_normal ?_
        refine St.rg ?_
        refine St.ev _ (Ev.add (Opd.mk rfl) (Opd.mk rfl) (by omega)) rfl ?_
        refine St.ev _ (Ev.move (Opd.mk rfl)) rfl ?_
        refine St.nil ?_
        refine St.then_normal ?_
        refine St.againS (k + 1) ⟨by omega, by rw [hv, conFrom_step hs, if_neg (by omega)]⟩ (by first | omega | (dsimp only; omega)) (by repeat (first | exact Sub.nil | refine Sub.cons (by first | rfl | exact congrArg (fun z => some (iv z)) (by first | omega | (dsimp only; omega)) | exact congrArg (fun z => some (Value.bool z)) (by first | assumption | exact Eq.symm (by assumption))) ?_)) (fun _ hw => hw.sub)
    · skip
      try simp only [Bool.and_true, Bool.true_and, decide_eq_true_eq, decide_eq_false_iff_not, Bool.and_eq_true, Bool.or_eq_true, Bool.and_eq_false_iff, Bool.or_eq_false_iff, Bool.not_eq_true', Bool.not_eq_false', beq_iff_eq, beq_eq_false_iff_ne, Int.not_lt, Int.not_le] at h22
      have hcz : conF l = (0, 0) := by rw [hv, List.drop_of_length_le (by omega)]; rfl
      have hcorp := (conF_ok (l := l) (by rw [hcz])).2
      have hl100 := hcorp.len
      refine St.exit ?_
      refine St.then_exit ?_
      refine St.then_exit ?_
      refine St.in_hit ?_
      refine St.then_normal ?_
      refine St.seq ?_
      refine St.rg ?_
      refine St.alloc zc28 rfl (fun b7 => ?_)
      refine St.nil ?_
      refine St.then_normal ?_
      refine St.seq ?_
      refine St.seq ?_
      refine St.rg ?_
      refine St.ev _ (Ev.move (Opd.mk rfl)) rfl ?_
      refine St.ev _ (Ev.lensl (Opd.mk rfl) Tryz.underlying22) rfl ?_
      refine St.ev _ (Ev.move (Opd.mk rfl)) rfl ?_
      refine St.nil ?_
      refine St.then_normal ?_
      refine St.block ?_
      refine St.nilrow 9 1 ?_
      refine St.rowEqN (.slice none 0 0) (show _ = ((l.take 0).flatten).length from rfl) (show _ = rows strR (l.take 0).flatten from rfl) ?_
      refine St.nilrow 23 1 ?_
      refine St.rowEqN (.slice none 0 0) (show _ = 0 from rfl) (show _ = rows valR [] from rfl) ?_
      refine St.ptwNil strR ?_
      refine St.cast (H' := _ :: _) (show dat (ptw strR [] []) :: _ = dat (ptw strR [] (l.take 0)) :: _ from rfl) ?_
      refine St.loopH2 (ι := Nat) (κ := Value × Value × List OneV) (fun k z T => (37, iv k) :: T) (fun k z => [blk b7 (.cells [z.1, z.2.1, .slice none 0 0, .slice none 0 0, .slice none 0 0].toArray 28 (0, 0)), row z.1 23 1 k (rows valR z.2.2), dat (ptw strR z.2.2 (l.take k)), row z.2.1 9 1 (l.take k).flatten.length (rows strR (l.take k).flatten), dat (sl valR v0 vs), dat (ptw strR vs l), blk b3 (.cells [iv 0, iv 0].toArray 30 (0, 0)), blk b2 (.cells [.slice none 0 0, .slice none 0 0, .slice none 0 0, .slice none 0 0, .slice none 0 0].toArray 28 (0, 0))]) (fun k z => k ≤ l.length ∧ z.2.2.length = k ∧ z.1.oneCell' = true ∧ z.2.1.oneCell' = true) (fun k z => l.length - k) 0 (.slice none 0 0, .slice none 0 0, []) (Keep.cons 2 rfl (Keep.cons 3 rfl (Keep.cons 7 rfl (Keep.cons 35 rfl (Keep.cons 36 rfl Keep.nil))))) ⟨Nat.zero_le _, rfl, rfl, rfl⟩ (by repeat (first | exact Sub.nil | refine Sub.cons (by first | rfl | exact congrArg (fun z => some (iv z)) (by first | omega | (dsimp only; omega)) | exact congrArg (fun z => some (Value.bool z)) (by first | assumption | exact Eq.symm (by assumption))) ?_)) (fun _ hw => hw.sub) ?_
      rintro k ⟨vl, vw, us⟩ ⟨hk, hul, hl1, hw1⟩
      dsimp only at hul hl1 hw1 ⊢
      have hfl := flat_take_len hcorp k
      refine St.seq ?_
      refine St.rg ?_
      refine St.ev _ (Ev.lss (Opd.mk rfl) (Opd.mk rfl)) rfl ?_
      refine St.nil ?_
      refine St.then_normal ?_
      refine St.seq ?_
      refine St.cond _ rfl (fun h38 => ?_) (fun h38 => ?_)
      · skip
        try simp only [Bool.and_true, Bool.true_and, decide_eq_true_eq, decide_eq_false_iff_not, Bool.and_eq_true, Bool.or_eq_true, Bool.and_eq_false_iff, Bool.or_eq_false_iff, Bool.not_eq_true', Bool.not_eq_false', beq_iff_eq, beq_eq_false_iff_ne, Int.not_lt, Int.not_le] at h38
        obtain ⟨s, hs⟩ := some_of_lt (show k < l.length by omega)
        obtain ⟨u, hu⟩ := some_of_lt (show k < vs.length by omega)
        refine St.ptw (vs := vs) k hu hs ?_
        have hs12 := mem_get hcorp hs
        refine St.skip ?_
        refine St.then_normal ?_
        refine St.seq ?_
        refine St.block ?_
        refine St.seq ?_
        refine St.rg ?_
        refine St.ev _ (Ev.idxaddr (k := k) (Opd.mk rfl) (Opd.mk rfl) Tryz.underlying22 sz23 (by omega) (by omega)) rfl ?_
        refine St.ev _ (Ev.ld1 (Opd.mk rfl) hu Tryz.underlying23 trivial rfl) rfl ?_
        refine St.ev _ (Ev.assign (Opd.mk rfl)) rfl ?_
        refine St.nil ?_
        refine St.then_normal ?_
        refine St.seq ?_
        refine St.parL [blk b7 (.cells [vl, vw, .slice none 0 0, .slice none 0 0, .slice none 0 0].toArray 28 (0, 0)), row vl 23 1 k (rows valR us)] mixed ?_
        refine SW.defer 0 (by repeat (first | refine NP.then ?_ | refine NP.inBlock ?_ | exact NP.body)) (by kernel_rfl) rfl (fun R => Ev.fldb0 (Opd.mk rfl) fo28_0) (by kernel_rfl) rfl ?_
        refine SW.defer 2 (by repeat (first | refine NP.then ?_ | refine NP.inBlock ?_ | exact NP.body)) (by kernel_rfl) rfl (fun R => Ev.move (Opd.mk rfl)) (by kernel_rfl) rfl ?_
        refine SW.turn2 (i := 1) (j := 3) (by kernel_rfl) rfl rfl ?_ ?_
        · skip
          refine St.ev _ (Ev.ldb (Opd.mk rfl) Tryz.underlying22 trivial (by rfl)) rfl ?_
          refine St.nil ?_
          refine St.then_normal ?_
          refine SW.go ?_
          refine SW.turn1 (i := 3) (by kernel_rfl) rfl ?_
          refine St.calld (CloneW_spec u.1 s (by omega)) cb27 (Opds.cons (Opd.mk rfl) Opds.nil) rfl ?_
          rintro v44 _ ⟨h44, rfl⟩
          refine St.app1 ?_
          refine St.publish v44 strR s rfl rfl (hwfl s (List.mem_of_getElem? hs)) ?_
          refine St.nil ?_
          refine St.then_normal ?_
          refine SW.go ?_
          refine SW.turn1 (i := 4) (by kernel_rfl) rfl ?_
          refine St.buildSl (xs := [(Operand.tmp 44)]) (ps := [(0, (Operand.tmp 44))]) rfl (Opds.cons (Opd.mk rfl) Opds.nil) Tryz.underlying22 sz23 zv23 rfl rfl (by simp [J.cells_one h44]) rfl rfl (fun b45 => ?_)
          refine St.nil ?_
          refine St.then_normal ?_
          refine SW.go ?_
          refine SW.turn1 (i := 5) (by kernel_rfl) rfl ?_
          refine St.appendRow (Opd.mk rfl) (Opd.mk rfl) Tryz.underlying22 sz23 zv23 by23 (by simp [J.cells_one h44, h44]) (by omega) (by omega) rfl rfl rfl rfl (fun v46 hv46 => ?_)
          refine St.rowEqN v46 (show _ = k + 1 from rfl) (show _ = rows valR (us ++ [⟨v44, h44⟩]) by rw [rows_snoc]; simp [J.cells_one h44]; rfl) ?_
          refine St.rowOne v46 (fun h46 _ => ?_)
          refine St.nil ?_
          refine St.then_normal ?_
          refine SW.go ?_
          refine SW.defer 6 (by repeat (first | refine NP.then ?_ | refine NP.inBlock ?_ | exact NP.body)) (by kernel_rfl) rfl (fun R => Ev.fldb0 (Opd.mk rfl) fo28_0) (by kernel_rfl) rfl ?_
          refine SW.turn1 (i := 7) (by kernel_rfl) rfl ?_
          refine St.store1 (Opd.mk rfl) (Opd.mk rfl) sz22 h46 (by rfl) ?_
          refine St.nil ?_
          refine St.then_normal ?_
          refine SW.go ?_
          refine SW.done (by kernel_rfl) ?_
          refine St.then_normal ?_
          refine St.rg ?_
          refine St.ev _ (Ev.fldb0 (Opd.mk rfl) fo28_1) rfl ?_
          refine St.ev _ (Ev.ldb (Opd.mk rfl) Tryz.underlying23 trivial (by rfl)) rfl ?_
          refine St.ev _ (Ev.move (Opd.mk rfl)) rfl ?_
          refine St.appendSl (Opd.mk rfl) (Opd.mk rfl) Tryz.underlying23 sz9 zv9 by9 (rows_one _ _) (by omega) (by omega) rfl rfl trivial rfl (fun v51 hv51 => ?_)
          refine St.rowEqS v51 (show _ = 1 from rfl) (show _ = (l.take (k + 1)).flatten.length by rw [flat_step hs]; simp) (show _ = rows strR (l.take (k + 1)).flatten by rw [flat_step hs]; simp [rows]) ?_
          refine St.rowOne v51 (fun h51 _ => ?_)
          refine St.ev _ (Ev.fldb0 (Opd.mk rfl) fo28_1) rfl ?_
          refine St.store1 (Opd.mk rfl) (Opd.mk rfl) sz23 h51 (by rfl) ?_
          refine St.nil ?_
          refine St.in_normal ?_
          refine St.then_normal ?_
          refine St.rg ?_
          refine St.ev _ (Ev.add (Opd.mk rfl) (Opd.mk rfl) (by omega)) rfl ?_
          refine St.ev _ (Ev.move (Opd.mk rfl)) rfl ?_
          refine St.nil ?_
          refine St.then_normal ?_
          refine St.ptwSnoc us ⟨v44, h44⟩ (by rw [List.length_take]; omega) ?_
          rw [← take_of_some hs]
          refine St.againH2 (k + 1) (v46, v51, us ++ [⟨v44, h44⟩]) ⟨by omega, by simp [hul], h46, h51⟩ (by first | omega | (dsimp only; omega)) (by repeat (first | exact Sub.nil | refine Sub.cons (by first | rfl | exact congrArg (fun z => some (iv z)) (by first | omega | (dsimp only; omega)) | exact congrArg (fun z => some (Value.bool z)) (by first | assumption | exact Eq.symm (by assumption))) ?_)) (fun _ hw => hw.sub)
        · skip
          refine St.calld (CloneW_spec u.1 s (by omega)) cb27 (Opds.cons (Opd.mk rfl) Opds.nil) rfl ?_
          rintro v44 _ ⟨h44, rfl⟩
          refine St.app1 ?_
          refine St.publish v44 strR s rfl rfl (hwfl s (List.mem_of_getElem? hs)) ?_
          refine St.nil ?_
          refine St.then_normal ?_
          refine SW.go ?_
          refine SW.turn2 (i := 1) (j := 4) (by kernel_rfl) rfl rfl ?_ ?_
          · skip
            refine St.ev _ (Ev.ldb (Opd.mk rfl) Tryz.underlying22 trivial (by rfl)) rfl ?_
            refine St.nil ?_
            refine St.then_normal ?_
            refine SW.go ?_
            refine SW.turn1 (i := 4) (by kernel_rfl) rfl ?_
            refine St.buildSl (xs := [(Operand.tmp 44)]) (ps := [(0, (Operand.tmp 44))]) rfl (Opds.cons (Opd.mk rfl) Opds.nil) Tryz.underlying22 sz23 zv23 rfl rfl (by simp [J.cells_one h44]) rfl rfl (fun b45 => ?_)
            refine St.nil ?_
            refine St.then_normal ?_
            refine SW.go ?_
            refine SW.turn1 (i := 5) (by kernel_rfl) rfl ?_
            refine St.appendRow (Opd.mk rfl) (Opd.mk rfl) Tryz.underlying22 sz23 zv23 by23 (by simp [J.cells_one h44, h44]) (by omega) (by omega) rfl rfl rfl rfl (fun v46 hv46 => ?_)
            refine St.rowEqN v46 (show _ = k + 1 from rfl) (show _ = rows valR (us ++ [⟨v44, h44⟩]) by rw [rows_snoc]; simp [J.cells_one h44]; rfl) ?_
            refine St.rowOne v46 (fun h46 _ => ?_)
            refine St.nil ?_
            refine St.then_normal ?_
            refine SW.go ?_
            refine SW.defer 6 (by repeat (first | refine NP.then ?_ | refine NP.inBlock ?_ | exact NP.body)) (by kernel_rfl) rfl (fun R => Ev.fldb0 (Opd.mk rfl) fo28_0) (by kernel_rfl) rfl ?_
            refine SW.turn1 (i := 7) (by kernel_rfl) rfl ?_
            refine St.store1 (Opd.mk rfl) (Opd.mk rfl) sz22 h46 (by rfl) ?_
            refine St.nil ?_
            refine St.then_normal ?_
            refine SW.go ?_
            refine SW.done (by kernel_rfl) ?_
            refine St.then_normal ?_
            refine St.rg ?_
            refine St.ev _ (Ev.fldb0 (Opd.mk rfl) fo28_1) rfl ?_
            refine St.ev _ (Ev.ldb (Opd.mk rfl) Tryz.underlying23 trivial (by rfl)) rfl ?_
            refine St.ev _ (Ev.move (Opd.mk rfl)) rfl ?_
            refine St.appendSl (Opd.mk rfl) (Opd.mk rfl) Tryz.underlying23 sz9 zv9 by9 (rows_one _ _) (by omega) (by omega) rfl rfl trivial rfl (fun v51 hv51 => ?_)
            refine St.rowEqS v51 (show _ = 1 from rfl) (show _ = (l.take (k + 1)).flatten.length by rw [flat_step hs]; simp) (show _ = rows strR (l.take (k + 1)).flatten by rw [flat_step hs]; simp [rows]) ?_
            refine St.rowOne v51 (fun h51 _ => ?_)
            refine St.ev _ (Ev.fldb0 (Opd.mk rfl) fo28_1) rfl ?_
            refine St.store1 (Opd.mk rfl) (Opd.mk rfl) sz23 h51 (by rfl) ?_
            refine St.nil ?_
            refine St.in_normal ?_
            refine St.then_normal ?_
            refine St.rg ?_
            refine St.ev _ (Ev.add (Opd.mk rfl) (Opd.mk rfl) (by omega)) rfl ?_
            refine St.ev _ (Ev.move (Opd.mk rfl)) rfl ?_
            refine St.nil ?_
            refine St.then_normal ?_
            refine St.ptwSnoc us ⟨v44, h44⟩ (by rw [List.length_take]; omega) ?_
            rw [← take_of_some hs]
            refine St.againH2 (k + 1) (v46, v51, us ++ [⟨v44, h44⟩]) ⟨by omega, by simp [hul], h46, h51⟩ (by first | omega | (dsimp only; omega)) (by repeat (first | exact Sub.nil | refine Sub.cons (by first | rfl | exact congrArg (fun z => some (iv z)) (by first | omega | (dsimp only; omega)) | exact congrArg (fun z => some (Value.bool z)) (by first | assumption | exact Eq.symm (by assumption))) ?_)) (fun _ hw => hw.sub)
          · skip
            refine St.buildSl (xs := [(Operand.tmp 44)]) (ps := [(0, (Operand.tmp 44))]) rfl (Opds.cons (Opd.mk rfl) Opds.nil) Tryz.underlying22 sz23 zv23 rfl rfl (by simp [J.cells_one h44]) rfl rfl (fun b45 => ?_)
            refine St.nil ?_
            refine St.then_normal ?_
            refine SW.go ?_
            refine SW.turn1 (i := 1) (by kernel_rfl) rfl ?_
            refine St.ev _ (Ev.ldb (Opd.mk rfl) Tryz.underlying22 trivial (by rfl)) rfl ?_
            refine St.nil ?_
            refine St.then_normal ?_
            refine SW.go ?_
            refine SW.turn1 (i := 5) (by kernel_rfl) rfl ?_
            refine St.appendRow (Opd.mk rfl) (Opd.mk rfl) Tryz.underlying22 sz23 zv23 by23 (by simp [J.cells_one h44, h44]) (by omega) (by omega) rfl rfl rfl rfl (fun v46 hv46 => ?_)
            refine St.rowEqN v46 (show _ = k + 1 from rfl) (show _ = rows valR (us ++ [⟨v44, h44⟩]) by rw [rows_snoc]; simp [J.cells_one h44]; rfl) ?_
            refine St.rowOne v46 (fun h46 _ => ?_)
            refine St.nil ?_
            refine St.then_normal ?_
            refine SW.go ?_
            refine SW.defer 6 (by repeat (first | refine NP.then ?_ | refine NP.inBlock ?_ | exact NP.body)) (by kernel_rfl) rfl (fun R => Ev.fldb0 (Opd.mk rfl) fo28_0) (by kernel_rfl) rfl ?_
            refine SW.turn1 (i := 7) (by kernel_rfl) rfl ?_
            refine St.store1 (Opd.mk rfl) (Opd.mk rfl) sz22 h46 (by rfl) ?_
            refine St.nil ?_
            refine St.then_normal ?_
            refine SW.go ?_
            refine SW.done (by kernel_rfl) ?_
            refine St.then_normal ?_
            refine St.rg ?_
            refine St.ev _ (Ev.fldb0 (Opd.mk rfl) fo28_1) rfl ?_
            refine St.ev _ (Ev.ldb (Opd.mk rfl) Tryz.underlying23 trivial (by rfl)) rfl ?_
            refine St.ev _ (Ev.move (Opd.mk rfl)) rfl ?_
            refine St.appendSl (Opd.mk rfl) (Opd.mk rfl) Tryz.underlying23 sz9 zv9 by9 (rows_one _ _) (by omega) (by omega) rfl rfl trivial rfl (fun v51 hv51 => ?_)
            refine St.rowEqS v51 (show _ = 1 from rfl) (show _ = (l.take (k + 1)).flatten.length by rw [flat_step hs]; simp) (show _ = rows strR (l.take (k + 1)).flatten by rw [flat_step hs]; simp [rows]) ?_
            refine St.rowOne v51 (fun h51 _ => ?_)
            refine St.ev _ (Ev.fldb0 (Opd.mk rfl) fo28_1) rfl ?_
            refine St.store1 (Opd.mk rfl) (Opd.mk rfl) sz23 h51 (by rfl) ?_
            refine St.nil ?_
            refine St.in_normal ?_
            refine St.then_normal ?_
            refine St.rg ?_
            refine St.ev _ (Ev.add (Opd.mk rfl) (Opd.mk rfl) (by omega)) rfl ?_
            refine St.ev _ (Ev.move (Opd.mk rfl)) rfl ?_
            refine St.nil ?_
            refine St.then_normal ?_
            refine St.ptwSnoc us ⟨v44, h44⟩ (by rw [List.length_take]; omega) ?_
            rw [← take_of_some hs]
            refine St.againH2 (k + 1) (v46, v51, us ++ [⟨v44, h44⟩]) ⟨by omega, by simp [hul], h46, h51⟩ (by first | omega | (dsimp only; omega)) (by repeat (first | exact Sub.nil | refine Sub.cons (by first | rfl | exact congrArg (fun z => some (iv z)) (by first | omega | (dsimp only; omega)) | exact congrArg (fun z => some (Value.bool z)) (by first | assumption | exact Eq.symm (by assumption))) ?_)) (fun _ hw => hw.sub)
      · skip
        try simp only [Bool.and_true, Bool.true_and, decide_eq_true_eq, decide_eq_false_iff_not, Bool.and_eq_true, Bool.or_eq_true, Bool.and_eq_false_iff, Bool.or_eq_false_iff, Bool.not_eq_true', Bool.not_eq_false', beq_iff_eq, beq_eq_false_iff_ne, Int.not_lt, Int.not_le] at h38
        obtain rfl : k = l.length := by omega
        rw [List.take_length] at hfl ⊢
        have hwl := wordsOf_len hcorp
        have hsl := sortW_len l.flatten
        refine St.exit ?_
        refine St.then_exit ?_
        refine St.then_exit ?_
        refine St.in_hit ?_
        refine St.then_normal ?_
        refine St.seq ?_
        refine St.rg ?_
        refine St.ev _ (Ev.fldb0 (Opd.mk rfl) fo28_1) rfl ?_
        refine St.ev _ (Ev.ldb (Opd.mk rfl) Tryz.underlying23 trivial (by rfl)) rfl ?_
        refine St.call (sort28_spec vw l.flatten (by omega)) cb28 (Opds.cons (Opd.mk rfl) Opds.nil) rfl ?_
        rintro v56 _ ⟨rfl, rfl⟩
        refine St.app1 ?_
        refine St.rowEqN vw (show _ = (List.range (sortW l.flatten).length).length by rw [List.length_range, hsl]) (show _ = (List.range (sortW l.flatten).length).map (fun i => sv (enW (sortW l.flatten) i)) from rows_words _) ?_
        refine St.nil ?_
        refine St.then_normal ?_
        refine St.seq ?_
        refine St.rg ?_
        refine St.ev _ (Ev.fldb0 (Opd.mk rfl) fo28_1) rfl ?_
        refine St.ev _ (Ev.ldb (Opd.mk rfl) Tryz.underlying23 trivial (by rfl)) rfl ?_
        refine St.call (CompactS_spec (enW (sortW l.flatten)) vw (List.range (sortW l.flatten).length) (by rw [List.length_range]; omega)) cb29 (Opds.cons (Opd.mk rfl) Opds.nil) rfl ?_
        rintro v59 _ ⟨h59, rfl⟩
        refine St.app1 ?_
        refine St.rowEqN v59 (show _ = (wordsOf l).length by unfold wordsOf ddW; rw [List.length_map]) (show _ = rows strR (wordsOf l) from rows_dd _) ?_
        refine St.publish v59 strR (wordsOf l) rfl rfl (fun w hw => by obtain ⟨s, hs, hw⟩ := (wordsOf_mem l w).1 hw; exact hwfl s hs w hw) ?_
        refine St.ev _ (Ev.fldb0 (Opd.mk rfl) fo28_1) rfl ?_
        refine St.store1 (Opd.mk rfl) (Opd.mk rfl) sz23 h59 (by rfl) ?_
        refine St.nil ?_
        refine St.then_normal ?_
        refine St.seq ?_
        refine St.seq ?_
        refine St.publish vl valR us rfl hul.symm (fun _ _ => trivial) ?_
        have hsst := wordsOf_sst l
        refine St.rg ?_
        refine St.ev _ (Ev.fldb0 (Opd.mk rfl) fo28_0) rfl ?_
        refine St.ev _ (Ev.ldb (Opd.mk rfl) Tryz.underlying22 trivial (by rfl)) rfl ?_
        refine St.ev _ (Ev.lensl (Opd.mk rfl) Tryz.underlying22) rfl ?_
        refine St.ev _ (Ev.move (Opd.mk rfl)) rfl ?_
        refine St.nil ?_
        refine St.then_normal ?_
        refine St.block ?_
        refine St.nilrow 67 2 ?_
        refine St.rowEqN (.slice none 0 0) (show _ = (plcFrom 0 (l.take 0)).length from rfl) (show _ = rows hitR (plcFrom 0 (l.take 0)) from rfl) ?_
        refine St.nilrow 3 1 ?_
        refine St.rowEqN (.slice none 0 0) (show _ = (ptsOf (numOf (wordsOf l)) (l.take 0)).length from rfl) (show _ = rows intR (ints (ptsOf (numOf (wordsOf l)) (l.take 0))) from rfl) ?_
        refine St.loopH2 (ι := Nat) (κ := Value × Value) (fun i z T => (64, iv i) :: T) (fun i z => [blk b7 (.cells [vl, v59, z.1, .slice none 0 0, z.2].toArray 28 (0, 0)), row z.1 3 1 (ptsOf (numOf (wordsOf l)) (l.take i)).length (rows intR (ints (ptsOf (numOf (wordsOf l)) (l.take i)))), row z.2 67 2 (plcFrom 0 (l.take i)).length (rows hitR (plcFrom 0 (l.take i))), dat (sl valR vl us), dat (ptw strR us l), dat (sl strR v59 (wordsOf l)), blk b3 (.cells [iv 0, iv 0].toArray 30 (0, 0)), blk b2 (.cells [.slice none 0 0, .slice none 0 0, .slice none 0 0, .slice none 0 0, .slice none 0 0].toArray 28 (0, 0))]) (fun i z => i ≤ l.length ∧ z.1.oneCell' = true ∧ z.2.oneCell' = true) (fun i z => l.length - i) 0 (.slice none 0 0, .slice none 0 0) (Keep.cons 2 rfl (Keep.cons 3 rfl (Keep.cons 7 rfl (Keep.cons 62 rfl (Keep.cons 63 rfl Keep.nil))))) ⟨Nat.zero_le _, rfl, rfl⟩ (by repeat (first | exact Sub.nil | refine Sub.cons (by first | rfl | exact congrArg (fun z => some (iv z)) (by first | omega | (dsimp only; omega)) | exact congrArg (fun z => some (Value.bool z)) (by first | assumption | exact Eq.symm (by assumption))) ?_)) (fun _ hw => hw.sub) ?_
        rintro i ⟨vp, vz⟩ ⟨hi, h3, h5⟩
        dsimp only at h3 h5 ⊢
        have hp13 := pts_take_len hcorp i (numOf (wordsOf l))
        have hc13 := plc_take_len hcorp i
        refine St.seq ?_
        refine St.rg ?_
        refine St.ev _ (Ev.lss (Opd.mk rfl) (Opd.mk rfl)) rfl ?_
        refine St.nil ?_
        refine St.then_normal ?_
        refine St.seq ?_
        refine St.cond _ rfl (fun h65 => ?_) (fun h65 => ?_)
        · skip
          try simp only [Bool.and_true, Bool.true_and, decide_eq_true_eq, decide_eq_false_iff_not, Bool.and_eq_true, Bool.or_eq_true, Bool.and_eq_false_iff, Bool.or_eq_false_iff, Bool.not_eq_true', Bool.not_eq_false', beq_iff_eq, beq_eq_false_iff_ne, Int.not_lt, Int.not_le] at h65
          obtain ⟨s, hs⟩ := some_of_lt (show i < l.length by omega)
          obtain ⟨u, hu⟩ := some_of_lt (show i < us.length by omega)
          refine St.ptw (vs := us) i hu hs ?_
          have hs12 := mem_get hcorp hs
          refine St.skip ?_
          refine St.then_normal ?_
          refine St.seq ?_
          refine St.block ?_
          refine St.seq ?_
          refine St.rg ?_
          refine St.ev _ (Ev.move (Opd.mk rfl)) rfl ?_
          refine St.ev _ (Ev.idxaddr (k := i) (Opd.mk rfl) (Opd.mk rfl) Tryz.underlying22 sz23 (by omega) (by omega)) rfl ?_
          refine St.ev _ (Ev.ld1 (Opd.mk rfl) hu Tryz.underlying23 trivial rfl) rfl ?_
          refine St.ev _ (Ev.assign (Opd.mk rfl)) rfl ?_
          refine St.ev _ (Ev.assign (Opd.mk rfl)) rfl ?_
          refine St.nil ?_
          refine St.then_normal ?_
          refine St.seq ?_
          refine St.seq ?_
          refine St.rg ?_
          refine St.ev _ (Ev.move (Opd.mk rfl)) rfl ?_
          refine St.ev _ (Ev.lensl (Opd.mk rfl) Tryz.underlying23) rfl ?_
          refine St.ev _ (Ev.move (Opd.mk rfl)) rfl ?_
          refine St.nil ?_
          refine St.then_normal ?_
          refine St.block ?_
          refine St.rowEqN vp (show _ = (ptsOf (numOf (wordsOf l)) (l.take i) ++ (s.take 0).map (numOf (wordsOf l))).length by simp) (show _ = rows intR (ints (ptsOf (numOf (wordsOf l)) (l.take i) ++ (s.take 0).map (numOf (wordsOf l)))) by simp) ?_
          refine St.rowEqN vz (show _ = (plcFrom 0 (l.take i) ++ (List.range 0).map (fun k => (i, k))).length by simp) (show _ = rows hitR (plcFrom 0 (l.take i) ++ (List.range 0).map (fun k => (i, k))) by simp) ?_
          refine St.loopH2 (ι := Nat) (κ := Value × Value) (fun k z T => (71, iv k) :: T) (fun k z => [blk b7 (.cells [vl, v59, z.1, .slice none 0 0, z.2].toArray 28 (0, 0)), row z.1 3 1 (ptsOf (numOf (wordsOf l)) (l.take i) ++ (s.take k).map (numOf (wordsOf l))).length (rows intR (ints (ptsOf (numOf (wordsOf l)) (l.take i) ++ (s.take k).map (numOf (wordsOf l))))), row z.2 67 2 (plcFrom 0 (l.take i) ++ (List.range k).map (fun k => (i, k))).length (rows hitR (plcFrom 0 (l.take i) ++ (List.range k).map (fun k => (i, k)))), dat (sl strR u.1 s), dat (sl valR vl us), dat (ptw strR us l), dat (sl strR v59 (wordsOf l)), blk b3 (.cells [iv 0, iv 0].toArray 30 (0, 0)), blk b2 (.cells [.slice none 0 0, .slice none 0 0, .slice none 0 0, .slice none 0 0, .slice none 0 0].toArray 28 (0, 0))]) (fun k z => k ≤ s.length ∧ z.1.oneCell' = true ∧ z.2.oneCell' = true) (fun k z => s.length - k) 0 (vp, vz) (Keep.cons 2 rfl (Keep.cons 3 rfl (Keep.cons 7 rfl (Keep.cons 10 rfl (Keep.cons 11 rfl (Keep.cons 62 rfl (Keep.cons 63 rfl (Keep.cons 64 rfl (Keep.cons 69 rfl (Keep.cons 70 rfl Keep.nil)))))))))) ⟨Nat.zero_le _, h3, h5⟩ (by repeat (first | exact Sub.nil | refine Sub.cons (by first | rfl | exact congrArg (fun z => some (iv z)) (by first | omega | (dsimp only; omega)) | exact congrArg (fun z => some (Value.bool z)) (by first | assumption | exact Eq.symm (by assumption))) ?_)) (fun _ hw => hw.sub) ?_
          rintro k ⟨wp, wz⟩ ⟨hk3, g3, g5⟩
          dsimp only at g3 g5 ⊢
          have hp3 : (ptsOf (numOf (wordsOf l)) (l.take i) ++ (s.take k).map (numOf (wordsOf l))).length ≤ 1312 := by rw [List.length_append, List.length_map, List.length_take]; omega
          have hc3 : (plcFrom 0 (l.take i) ++ (List.range k).map (fun k => (i, k))).length ≤ 1312 := by rw [List.length_append, List.length_map, List.length_range]; omega
          refine St.seq ?_
          refine St.rg ?_
          refine St.ev _ (Ev.lss (Opd.mk rfl) (Opd.mk rfl)) rfl ?_
          refine St.nil ?_
          refine St.then_normal ?_
          refine St.seq ?_
          refine St.cond _ rfl (fun h72 => ?_) (fun h72 => ?_)
          · skip
            try simp only [Bool.and_true, Bool.true_and, decide_eq_true_eq, decide_eq_false_iff_not, Bool.and_eq_true, Bool.or_eq_true, Bool.and_eq_false_iff, Bool.or_eq_false_iff, Bool.not_eq_true', Bool.not_eq_false', beq_iff_eq, beq_eq_false_iff_ne, Int.not_lt, Int.not_le] at h72
            obtain ⟨w, hw⟩ := some_of_lt (show k < s.length by omega)
            refine St.skip ?_
            refine St.then_normal ?_
            refine St.seq ?_
            refine St.block ?_
            refine St.seq ?_
            refine St.rg ?_
            refine St.ev _ (Ev.move (Opd.mk rfl)) rfl ?_
            refine St.ev _ (Ev.idxaddr (k := k) (Opd.mk rfl) (Opd.mk rfl) Tryz.underlying23 sz9 (by omega) (by omega)) rfl ?_
            refine St.ev _ (Ev.ld1 (Opd.mk rfl) hw Tryz.underlying9 trivial rfl) rfl ?_
            refine St.ev _ (Ev.assign (Opd.mk rfl)) rfl ?_
            refine St.ev _ (Ev.assign (Opd.mk rfl)) rfl ?_
            refine St.nil ?_
            refine St.then_normal ?_
            refine St.seq ?_
            refine St.parL [blk b7 (.cells [vl, v59, wp, .slice none 0 0, wz].toArray 28 (0, 0)), row wp 3 1 (ptsOf (numOf (wordsOf l)) (l.take i) ++ (s.take k).map (numOf (wordsOf l))).length (rows intR (ints (ptsOf (numOf (wordsOf l)) (l.take i) ++ (s.take k).map (numOf (wordsOf l)))))] mixed ?_
            refine SW.defer 0 (by repeat (first | refine NP.then ?_ | refine NP.inBlock ?_ | exact NP.body)) (by kernel_rfl) rfl (fun R => Ev.fldb0 (Opd.mk rfl) fo28_2) (by kernel_rfl) rfl ?_
            refine SW.defer 3 (by repeat (first | refine NP.then ?_ | refine NP.inBlock ?_ | exact NP.body)) (by kernel_rfl) rfl (fun R => Ev.move (Opd.mk rfl)) (by kernel_rfl) rfl ?_
            refine SW.turn2 (i := 1) (j := 2) (by kernel_rfl) rfl rfl ?_ ?_
            · skip
              refine St.ev _ (Ev.ldb (Opd.mk rfl) Tryz.underlying25 trivial (by rfl)) rfl ?_
              refine St.nil ?_
              refine St.then_normal ?_
              refine SW.go ?_
              refine SW.turn1 (i := 2) (by kernel_rfl) rfl ?_
              refine St.ev _ (Ev.ldbA (Opd.mk rfl) Tryz.underlying28 trivial (by exact sz28)) rfl ?_
              refine St.nil ?_
              refine St.then_normal ?_
              refine SW.go ?_
              refine SW.defer 4 (by repeat (first | refine NP.then ?_ | refine NP.inBlock ?_ | exact NP.body)) (by kernel_rfl) rfl (fun R => Ev.call (number_spec vl v59 wp (.slice none 0 0) wz (wordsOf l) w hsst (by omega)) cb30 (Opds.cons (Opd.mk rfl) (Opds.cons (Opd.mk rfl) Opds.nil))) (by kernel_rfl) rfl ?_
              refine SW.turn1 (i := 5) (by kernel_rfl) rfl ?_
              refine St.buildSl (xs := [(Operand.tmp 80)]) (ps := [(0, (Operand.tmp 80))]) rfl (Opds.cons (Opd.mk rfl) Opds.nil) Tryz.underlying25 sz3 zv3 rfl rfl (by simp [Value.cells]) rfl rfl (fun b81 => ?_)
              refine St.nil ?_
              refine St.then_normal ?_
              refine SW.go ?_
              refine SW.turn1 (i := 6) (by kernel_rfl) rfl ?_
              refine St.appendRow (Opd.mk rfl) (Opd.mk rfl) Tryz.underlying25 sz3 zv3 by3 (by simp [Value.oneCell', Value.cells]) (by omega) (by omega) rfl rfl rfl rfl (fun v82 hv82 => ?_)
              refine St.rowEqN v82 (show _ = (ptsOf (numOf (wordsOf l)) (l.take i) ++ (s.take (k + 1)).map (numOf (wordsOf l))).length by rw [map_step hw]; exact len_snoc) (show _ = rows intR (ints (ptsOf (numOf (wordsOf l)) (l.take i) ++ (s.take (k + 1)).map (numOf (wordsOf l)))) from rowsI_snoc (map_step hw _ _)) ?_
              refine St.rowOne v82 (fun h82 _ => ?_)
              refine St.nil ?_
              refine St.then_normal ?_
              refine SW.go ?_
              refine SW.defer 7 (by repeat (first | refine NP.then ?_ | refine NP.inBlock ?_ | exact NP.body)) (by kernel_rfl) rfl (fun R => Ev.fldb0 (Opd.mk rfl) fo28_2) (by kernel_rfl) rfl ?_
              refine SW.turn1 (i := 8) (by kernel_rfl) rfl ?_
              refine St.store1 (Opd.mk rfl) (Opd.mk rfl) sz25 h82 (by rfl) ?_
              refine St.nil ?_
              refine St.then_normal ?_
              refine SW.go ?_
              refine SW.done (by kernel_rfl) ?_
              refine St.then_normal ?_
              refine St.rg ?_
              refine St.ev _ (Ev.fldb0 (Opd.mk rfl) fo28_4) rfl ?_
              refine St.ev _ (Ev.ldb (Opd.mk rfl) Tryz.underlying26 trivial (by rfl)) rfl ?_
              refine St.ev _ (Ev.move (Opd.mk rfl)) rfl ?_
              refine St.ev _ (Ev.move (Opd.mk rfl)) rfl ?_
              refine St.ev _ (Ev.build (ps := [(0, (Operand.tmp 86)), (1, (Operand.tmp 87))]) (Opds.cons (Opd.mk rfl) (Opds.cons (Opd.mk rfl) Opds.nil)) (fun w => bld67_0_1 rfl rfl w)) rfl ?_
              refine St.buildSl (xs := [(Operand.tmp 88)]) (ps := [(0, (Operand.tmp 88))]) rfl (Opds.cons (Opd.mk rfl) Opds.nil) Tryz.underlying26 sz67 zv67 rfl rfl (by simp [Value.cells]) rfl rfl (fun b89 => ?_)
              refine St.appendRow (Opd.mk rfl) (Opd.mk rfl) Tryz.underlying26 sz67 zv67 by67 (by simp [Value.oneCell', Value.cells]) (by omega) (by omega) rfl rfl rfl rfl (fun v90 hv90 => ?_)
              refine St.rowEqN v90 (show _ = (plcFrom 0 (l.take i) ++ (List.range (k + 1)).map (fun k => (i, k))).length by rw [plc_step]; exact len_snoc) (show _ = rows hitR (plcFrom 0 (l.take i) ++ (List.range (k + 1)).map (fun k => (i, k))) from rowsH_snoc (n := (i, k)) (plc_step _ _ _)) ?_
              refine St.rowOne v90 (fun h90 _ => ?_)
              refine St.ev _ (Ev.fldb0 (Opd.mk rfl) fo28_4) rfl ?_
              refine St.store1 (Opd.mk rfl) (Opd.mk rfl) sz26 h90 (by rfl) ?_
              refine St.nil ?_
              refine St.in_normal ?_
              refine St.then_normal ?_
              refine St.rg ?_
              refine St.ev _ (Ev.add (Opd.mk rfl) (Opd.mk rfl) (by omega)) rfl ?_
              refine St.ev _ (Ev.move (Opd.mk rfl)) rfl ?_
              refine St.nil ?_
              refine St.then_normal ?_
              refine St.againH2 (k + 1) (v82, v90) ⟨by omega, h82, h90⟩ (by first | omega | (dsimp only; omega)) (by repeat (first | exact Sub.nil | refine Sub.cons (by first | rfl | exact congrArg (fun z => some (iv z)) (by first | omega | (dsimp only; omega)) | exact congrArg (fun z => some (Value.bool z)) (by first | assumption | exact Eq.symm (by assumption))) ?_)) (fun _ hw => hw.sub)
            · skip
              refine St.ev _ (Ev.ldbA (Opd.mk rfl) Tryz.underlying28 trivial (by exact sz28)) rfl ?_
              refine St.nil ?_
              refine St.then_normal ?_
              refine SW.go ?_
              refine SW.defer 4 (by repeat (first | refine NP.then ?_ | refine NP.inBlock ?_ | exact NP.body)) (by kernel_rfl) rfl (fun R => Ev.call (number_spec vl v59 wp (.slice none 0 0) wz (wordsOf l) w hsst (by omega)) cb30 (Opds.cons (Opd.mk rfl) (Opds.cons (Opd.mk rfl) Opds.nil))) (by kernel_rfl) rfl ?_
              refine SW.turn2 (i := 1) (j := 5) (by kernel_rfl) rfl rfl ?_ ?_
              · skip
                refine St.ev _ (Ev.ldb (Opd.mk rfl) Tryz.underlying25 trivial (by rfl)) rfl ?_
                refine St.nil ?_
                refine St.then_normal ?_
                refine SW.go ?_
                refine SW.turn1 (i := 5) (by kernel_rfl) rfl ?_
                refine St.buildSl (xs := [(Operand.tmp 80)]) (ps := [(0, (Operand.tmp 80))]) rfl (Opds.cons (Opd.mk rfl) Opds.nil) Tryz.underlying25 sz3 zv3 rfl rfl (by simp [Value.cells]) rfl rfl (fun b81 => ?_)
                refine St.nil ?_
                refine St.then_normal ?_
                refine SW.go ?_
                refine SW.turn1 (i := 6) (by kernel_rfl) rfl ?_
                refine St.appendRow (Opd.mk rfl) (Opd.mk rfl) Tryz.underlying25 sz3 zv3 by3 (by simp [Value.oneCell', Value.cells]) (by omega) (by omega) rfl rfl rfl rfl (fun v82 hv82 => ?_)
                refine St.rowEqN v82 (show _ = (ptsOf (numOf (wordsOf l)) (l.take i) ++ (s.take (k + 1)).map (numOf (wordsOf l))).length by rw [map_step hw]; exact len_snoc) (show _ = rows intR (ints (ptsOf (numOf (wordsOf l)) (l.take i) ++ (s.take (k + 1)).map (numOf (wordsOf l)))) from rowsI_snoc (map_step hw _ _)) ?_
                refine St.rowOne v82 (fun h82 _ => ?_)
                refine St.nil ?_
                refine St.then_normal ?_
                refine SW.go ?_
                refine SW.defer 7 (by repeat (first | refine NP.then ?_ | refine NP.inBlock ?_ | exact NP.body)) (by kernel_rfl) rfl (fun R => Ev.fldb0 (Opd.mk rfl) fo28_2) (by kernel_rfl) rfl ?_
                refine SW.turn1 (i := 8) (by kernel_rfl) rfl ?_
                refine St.store1 (Opd.mk rfl) (Opd.mk rfl) sz25 h82 (by rfl) ?_
                refine St.nil ?_
                refine St.then_normal ?_
                refine SW.go ?_
                refine SW.done (by kernel_rfl) ?_
                refine St.then_normal ?_
                refine St.rg ?_
                refine St.ev _ (Ev.fldb0 (Opd.mk rfl) fo28_4) rfl ?_
                refine St.ev _ (Ev.ldb (Opd.mk rfl) Tryz.underlying26 trivial (by rfl)) rfl ?_
                refine St.ev _ (Ev.move (Opd.mk rfl)) rfl ?_
                refine St.ev _ (Ev.move (Opd.mk rfl)) rfl ?_
                refine St.ev _ (Ev.build (ps := [(0, (Operand.tmp 86)), (1, (Operand.tmp 87))]) (Opds.cons (Opd.mk rfl) (Opds.cons (Opd.mk rfl) Opds.nil)) (fun w => bld67_0_1 rfl rfl w)) rfl ?_
                refine St.buildSl (xs := [(Operand.tmp 88)]) (ps := [(0, (Operand.tmp 88))]) rfl (Opds.cons (Opd.mk rfl) Opds.nil) Tryz.underlying26 sz67 zv67 rfl rfl (by simp [Value.cells]) rfl rfl (fun b89 => ?_)
                refine St.appendRow (Opd.mk rfl) (Opd.mk rfl) Tryz.underlying26 sz67 zv67 by67 (by simp [Value.oneCell', Value.cells]) (by omega) (by omega) rfl rfl rfl rfl (fun v90 hv90 => ?_)
                refine St.rowEqN v90 (show _ = (plcFrom 0 (l.take i) ++ (List.range (k + 1)).map (fun k => (i, k))).length by rw [plc_step]; exact len_snoc) (show _ = rows hitR (plcFrom 0 (l.take i) ++ (List.range (k + 1)).map (fun k => (i, k))) from rowsH_snoc (n := (i, k)) (plc_step _ _ _)) ?_
                refine St.rowOne v90 (fun h90 _ => ?_)
                refine St.ev _ (Ev.fldb0 (Opd.mk rfl) fo28_4) rfl ?_
                refine St.store1 (Opd.mk rfl) (Opd.mk rfl) sz26 h90 (by rfl) ?_
                refine St.nil ?_
                refine St.in_normal ?_
                refine St.then_normal ?_
                refine St.rg ?_
                refine St.ev _ (Ev.add (Opd.mk rfl) (Opd.mk rfl) (by omega)) rfl ?_
                refine St.ev _ (Ev.move (Opd.mk rfl)) rfl ?_
                refine St.nil ?_
                refine St.then_normal ?_
                refine St.againH2 (k + 1) (v82, v90) ⟨by omega, h82, h90⟩ (by first | omega | (dsimp only; omega)) (by repeat (first | exact Sub.nil | refine Sub.cons (by first | rfl | exact congrArg (fun z => some (iv z)) (by first | omega | (dsimp only; omega)) | exact congrArg (fun z => some (Value.bool z)) (by first | assumption | exact Eq.symm (by assumption))) ?_)) (fun _ hw => hw.sub)
              · skip
                refine St.buildSl (xs := [(Operand.tmp 80)]) (ps := [(0, (Operand.tmp 80))]) rfl (Opds.cons (Opd.mk rfl) Opds.nil) Tryz.underlying25 sz3 zv3 rfl rfl (by simp [Value.cells]) rfl rfl (fun b81 => ?_)
                refine St.nil ?_
                refine St.then_normal ?_
                refine SW.go ?_
                refine SW.turn1 (i := 1) (by kernel_rfl) rfl ?_
                refine St.ev _ (Ev.ldb (Opd.mk rfl) Tryz.underlying25 trivial (by rfl)) rfl ?_
                refine St.nil ?_
                refine St.then_normal ?_
                refine SW.go ?_
                refine SW.turn1 (i := 6) (by kernel_rfl) rfl ?_
                refine St.appendRow (Opd.mk rfl) (Opd.mk rfl) Tryz.underlying25 sz3 zv3 by3 (by simp [Value.oneCell', Value.cells]) (by omega) (by omega) rfl rfl rfl rfl (fun v82 hv82 => ?_)
                refine St.rowEqN v82 (show _ = (ptsOf (numOf (wordsOf l)) (l.take i) ++ (s.take (k + 1)).map (numOf (wordsOf l))).length by rw [map_step hw]; exact len_snoc) (show _ = rows intR (ints (ptsOf (numOf (wordsOf l)) (l.take i) ++ (s.take (k + 1)).map (numOf (wordsOf l)))) from rowsI_snoc (map_step hw _ _)) ?_
                refine St.rowOne v82 (fun h82 _ => ?_)
                refine St.nil ?_
                refine St.then_normal ?_
                refine SW.go ?_
                refine SW.defer 7 (by repeat (first | refine NP.then ?_ | refine NP.inBlock ?_ | exact NP.body)) (by kernel_rfl) rfl (fun R => Ev.fldb0 (Opd.mk rfl) fo28_2) (by kernel_rfl) rfl ?_
                refine SW.turn1 (i := 8) (by kernel_rfl) rfl ?_
                refine St.store1 (Opd.mk rfl) (Opd.mk rfl) sz25 h82 (by rfl) ?_
                refine St.nil ?_
                refine St.then_normal ?_
                refine SW.go ?_
                refine SW.done (by kernel_rfl) ?_
                refine St.then_normal ?_
                refine St.rg ?_
                refine St.ev _ (Ev.fldb0 (Opd.mk rfl) fo28_4) rfl ?_
                refine St.ev _ (Ev.ldb (Opd.mk rfl) Tryz.underlying26 trivial (by rfl)) rfl ?_
                refine St.ev _ (Ev.move (Opd.mk rfl)) rfl ?_
                refine St.ev _ (Ev.move (Opd.mk rfl)) rfl ?_
                refine St.ev _ (Ev.build (ps := [(0, (Operand.tmp 86)), (1, (Operand.tmp 87))]) (Opds.cons (Opd.mk rfl) (Opds.cons (Opd.mk rfl) Opds.nil)) (fun w => bld67_0_1 rfl rfl w)) rfl ?_
                refine St.buildSl (xs := [(Operand.tmp 88)]) (ps := [(0, (Operand.tmp 88))]) rfl (Opds.cons (Opd.mk rfl) Opds.nil) Tryz.underlying26 sz67 zv67 rfl rfl (by simp [Value.cells]) rfl rfl (fun b89 => ?_)
                refine St.appendRow (Opd.mk rfl) (Opd.mk rfl) Tryz.underlying26 sz67 zv67 by67 (by simp [Value.oneCell', Value.cells]) (by omega) (by omega) rfl rfl rfl rfl (fun v90 hv90 => ?_)
                refine St.rowEqN v90 (show _ = (plcFrom 0 (l.take i) ++ (List.range (k + 1)).map (fun k => (i, k))).length by rw [plc_step]; exact len_snoc) (show _ = rows hitR (plcFrom 0 (l.take i) ++ (List.range (k + 1)).map (fun k => (i, k))) from rowsH_snoc (n := (i, k)) (plc_step _ _ _)) ?_
                refine St.rowOne v90 (fun h90 _ => ?_)
                refine St.ev _ (Ev.fldb0 (Opd.mk rfl) fo28_4) rfl ?_
                refine St.store1 (Opd.mk rfl) (Opd.mk rfl) sz26 h90 (by rfl) ?_
                refine St.nil ?_
                refine St.in_normal ?_
                refine St.then_normal ?_
                refine St.rg ?_
                refine St.ev _ (Ev.add (Opd.mk rfl) (Opd.mk rfl) (by omega)) rfl ?_
                refine St.ev _ (Ev.move (Opd.mk rfl)) rfl ?_
                refine St.nil ?_
                refine St.then_normal ?_
                refine St.againH2 (k + 1) (v82, v90) ⟨by omega, h82, h90⟩ (by first | omega | (dsimp only; omega)) (by repeat (first | exact Sub.nil | refine Sub.cons (by first | rfl | exact congrArg (fun z => some (iv z)) (by first | omega | (dsimp only; omega)) | exact congrArg (fun z => some (Value.bool z)) (by first | assumption | exact Eq.symm (by assumption))) ?_)) (fun _ hw => hw.sub)
          · skip
            try simp only [Bool.and_true, Bool.true_and, decide_eq_true_eq, decide_eq_false_iff_not, Bool.and_eq_true, Bool.or_eq_true, Bool.and_eq_false_iff, Bool.or_eq_false_iff, Bool.not_eq_true', Bool.not_eq_false', beq_iff_eq, beq_eq_false_iff_ne, Int.not_lt, Int.not_le] at h72
            obtain rfl : k = s.length := by omega
            refine St.exit ?_
            refine St.then_exit ?_
            refine St.then_exit ?_
            refine St.in_hit ?_
            refine St.then_normal ?_
            refine St.seq ?_
            refine St.rg ?_
            refine St.ev _ (Ev.fldb0 (Opd.mk rfl) fo28_2) rfl ?_
            refine St.ev _ (Ev.ldb (Opd.mk rfl) Tryz.underlying25 trivial (by rfl)) rfl ?_
            refine St.buildSl (xs := [(Operand.const (Value.int IntKind.i64 0))]) (ps := [(0, (Operand.const (Value.int IntKind.i64 0)))]) rfl (Opds.cons (Opd.mk rfl) Opds.nil) Tryz.underlying25 sz3 zv3 rfl rfl (by simp [Value.cells]) rfl rfl (fun b95 => ?_)
            refine St.appendRow (Opd.mk rfl) (Opd.mk rfl) Tryz.underlying25 sz3 zv3 by3 (by simp [Value.oneCell', Value.cells]) (by omega) (by omega) rfl rfl rfl rfl (fun v96 hv96 => ?_)
            refine St.rowEqN v96 (show _ = (ptsOf (numOf (wordsOf l)) (l.take (i + 1))).length by rw [nums_step hs, List.take_length]; exact len_snoc) (show _ = rows intR (ints (ptsOf (numOf (wordsOf l)) (l.take (i + 1)))) from rowsI_snoc (by rw [nums_step hs, List.take_length])) ?_
            refine St.rowOne v96 (fun h96 _ => ?_)
            refine St.ev _ (Ev.fldb0 (Opd.mk rfl) fo28_2) rfl ?_
            refine St.store1 (Opd.mk rfl) (Opd.mk rfl) sz25 h96 (by rfl) ?_
            refine St.nil ?_
            refine St.then_normal ?_
            refine St.rg ?_
            refine St.ev _ (Ev.fldb0 (Opd.mk rfl) fo28_4) rfl ?_
            refine St.ev _ (Ev.ldb (Opd.mk rfl) Tryz.underlying26 trivial (by rfl)) rfl ?_
            refine St.ev _ (Ev.move (Opd.mk rfl)) rfl ?_
            refine St.ev _ (Ev.move (Opd.mk rfl)) rfl ?_
            refine St.ev _ (Ev.lensl (Opd.mk rfl) Tryz.underlying23) rfl ?_
            refine St.ev _ (Ev.build (ps := [(0, (Operand.tmp 100)), (1, (Operand.tmp 102))]) (Opds.cons (Opd.mk rfl) (Opds.cons (Opd.mk rfl) Opds.nil)) (fun w => bld67_0_1 rfl rfl w)) rfl ?_
            refine St.buildSl (xs := [(Operand.tmp 103)]) (ps := [(0, (Operand.tmp 103))]) rfl (Opds.cons (Opd.mk rfl) Opds.nil) Tryz.underlying26 sz67 zv67 rfl rfl (by simp [Value.cells]) rfl rfl (fun b104 => ?_)
            refine St.appendRow (Opd.mk rfl) (Opd.mk rfl) Tryz.underlying26 sz67 zv67 by67 (by simp [Value.oneCell', Value.cells]) (by omega) (by omega) rfl rfl rfl rfl (fun v105 hv105 => ?_)
            refine St.rowEqN v105 (show _ = (plcFrom 0 (l.take (i + 1))).length by rw [plcs_step hs]; exact len_snoc) (show _ = rows hitR (plcFrom 0 (l.take (i + 1))) from rowsH_snoc (n := (i, s.length)) (plcs_step hs)) ?_
            refine St.rowOne v105 (fun h105 _ => ?_)
            refine St.ev _ (Ev.fldb0 (Opd.mk rfl) fo28_4) rfl ?_
            refine St.store1 (Opd.mk rfl) (Opd.mk rfl) sz26 h105 (by rfl) ?_
            refine St.nil ?_
            refine St.in_normal ?_
            refine St.then_normal ?_
            refine St.rg ?_
            refine St.ev _ (Ev.add (Opd.mk rfl) (Opd.mk rfl) (by omega)) rfl ?_
            refine St.ev _ (Ev.move (Opd.mk rfl)) rfl ?_
            refine St.nil ?_
            refine St.then_normal ?_
            refine St.againH2 (i + 1) (v96, v105) ⟨by omega, h96, h105⟩ (by first | omega | (dsimp only; omega)) (by repeat (first | exact Sub.nil | refine Sub.cons (by first | rfl | exact congrArg (fun z => some (iv z)) (by first | omega | (dsimp only; omega)) | exact congrArg (fun z => some (Value.bool z)) (by first | assumption | exact Eq.symm (by assumption))) ?_)) (fun _ hw => hw.sub)
        · skip
          try simp only [Bool.and_true, Bool.true_and, decide_eq_true_eq, decide_eq_false_iff_not, Bool.and_eq_true, Bool.or_eq_true, Bool.and_eq_false_iff, Bool.or_eq_false_iff, Bool.not_eq_true', Bool.not_eq_false', beq_iff_eq, beq_eq_false_iff_ne, Int.not_lt, Int.not_le] at h65
          obtain rfl : i = l.length := by omega
          rw [List.take_length] at hp13 hc13 ⊢
          have hng := nums_good hcorp
          have hnl := numsOf_len hcorp
          refine St.publish vp intR (ints (numsOf l)) rfl (ints_length _).symm (int_wf fun x hx => by have := numsOf_le hcorp x hx; omega) ?_
          refine St.publish vz hitR (plcFrom 0 l) rfl rfl (fun _ _ => trivial) ?_
          refine St.exit ?_
          refine St.then_exit ?_
          refine St.then_exit ?_
          refine St.in_hit ?_
          refine St.then_normal ?_
          refine St.seq ?_
          refine St.rg ?_
          refine St.ev _ (Ev.fldb0 (Opd.mk rfl) fo28_2) rfl ?_
          refine St.ev _ (Ev.ldb (Opd.mk rfl) Tryz.underlying25 trivial (by rfl)) rfl ?_
          refine St.calld (Build_spec vp (ints (numsOf l))) cb31 (Opds.cons (Opd.mk rfl) Opds.nil) rfl ?_
          rintro v111 _ ⟨vo, rfl, ho1, rfl⟩
          refine St.app1 ?_
          rw [bld_t (by rw [hng]), hng]
          refine St.publish vo intR (ints (sufOf (ints (numsOf l)))) rfl (ints_length _).symm (suf_wf (by rw [ints_length]; omega)) ?_
          refine St.ev _ (Ev.move (Opd.mk rfl)) rfl ?_
          refine St.ev _ (Ev.extract (Opd.mk rfl) rfl) rfl ?_
          refine St.ev _ (Ev.extract (Opd.mk rfl) rfl) rfl ?_
          refine St.ev _ (Ev.fldb0 (Opd.mk rfl) fo28_3) rfl ?_
          refine St.store1 (Opd.mk rfl) (Opd.mk rfl) sz25 ho1 (by rfl) ?_
          refine St.nil ?_
          refine St.then_normal ?_
          refine St.seq ?_
          refine St.rg ?_
          refine St.ev _ (Ev.ldbA (Opd.mk rfl) Tryz.underlying28 trivial (by exact sz28)) rfl ?_
          refine St.ev _ (Ev.build (ps := []) (Opds.nil) (fun w => bld30_  w)) rfl ?_
          refine St.storeA (Opd.mk rfl) (Opd.mk rfl) sz28 (by first | simp only [List.length_cons, List.length_nil] | rfl) (by simp [hl1, h59, h3, ho1, h5]) ?_
          refine St.storeA (Opd.mk rfl) (Opd.mk rfl) sz30 (by first | simp only [List.length_cons, List.length_nil] | rfl) rfl ?_
          refine St.nil ?_
          refine St.then_normal ?_
          refine St.rett ?_
          refine St.mkNs (Rr := strR) (l := l) vl (vs := us) hul ?_
          refine St.mkD (idxD vl v59 vp vo vz l) (idxL vl v59 vp vo vz l) (fun ρ h => h) ?_
          refine St.rets [_, _] [dat (idxD vl v59 vp vo vz l)] Tryz.results11 ⟨⟨_, _, _, _, rfl, InB.mem, .inl ⟨⟨_, Tryz.underlying28⟩, sz28, rfl⟩⟩, ⟨⟨_, _, _, _, rfl, InB.mem, .inl ⟨⟨_, Tryz.underlying30⟩, sz30, rfl⟩⟩, trivial⟩⟩ ?_ (fun _ hw => hw.sub)
          rw [okL_t (by rw [hcz]), hcz]; exact ⟨_, _, _, _, _, rfl, hl1, h59, h3, ho1, h5, rfl⟩

end Go.Proofs.YtgikcbfdonjggaaGreatDoor

/-
  (YtgikcbfdonjggaaGreatDoorJ18)
  The greater of two numbers, by the language's own word.
  Conditions: none; everything holds of any program.
-/
namespace Go.J
open Go Go.Proofs
section
variable {P : Program} {n : Nat} {F : Fr} {A : World → Prop} {x y : Operand} {ty : TypeId}
theorem Ev.maxI {a b : Int} {ats : Array TypeId} (hx : Opd F x (iv a)) (hy : Opd F y (iv b)) :
    Ev P n F A (.call { callee := .builtin .max, args := #[x, y], argTypes := ats }) ty (iv (if a < b then b else a)) := .of_run fun a w ha _ => by
  simp [execOp, resolve, invoke, builtin, hx.eval ha, hy.eval ha, run_max_int2, iv]
end
end Go.J

/-
  (YtgikcbfdonjggaaGreatDoorC5)
  The walks of finding, counting and listing the places of a part; of the reference's list of them.
  Conditions: none beyond the sizes.
-/
set_option maxRecDepth 20000
set_option linter.unusedSimpArgs false
set_option linter.unusedVariables false
namespace Go.Proofs.YtgikcbfdonjggaaGreatDoor
open Go Go.J

theorem ints_inj {a b : List Nat} : ints a = ints b ↔ a = b := by
  constructor
  · intro h
    have := congrArg (List.map Int.toNat) h
    simpa [ints, List.map_map, Function.comp_def] using this
  · intro h; rw [h]
theorem places_ints (a b : List Nat) : placesOf (ints a) (ints b) = (List.range a.length).filter fun i => decide ((a.drop i).take b.length = b) := by
  unfold placesOf
  simp only [ints_length]
  apply List.filter_congr
  intro i _
  have e : pre (ints a) b.length i = ints ((a.drop i).take b.length) := by
    unfold pre
    simp [ints, List.map_drop, List.map_take]
  rw [e]
  exact decide_eq_decide.2 ints_inj
def fnH (l : List (List Str)) (p : List Str) : List (Nat × Nat) := if (partF p).1 = 0 then hitsOf l p else []
theorem fnH_t {l : List (List Str)} {p : List Str} (h : (partF p).1 = 0) : fnH l p = hitsOf l p := by unfold fnH; rw [if_pos h]
theorem fnH_f {l : List (List Str)} {p : List Str} (h : (partF p).1 ≠ 0) : fnH l p = [] := by unfold fnH; rw [if_neg h]
theorem nums_le_of {l : List (List Str)} (h : Corp l) (p : List Str) : ∀ x ∈ ints (p.map (numOf (wordsOf l))), intR.wf x := int_wf fun i hi => by
  obtain ⟨w, _, rfl⟩ := List.mem_map.1 hi
  have := numOf_le (wordsOf l) w
  have := wordsOf_len h
  omega
theorem places_wf {p part : List Int} (h : p.length ≤ 2000) : ∀ x ∈ ints (placesOf p part), intR.wf x := int_wf fun i hi => by have := placesOf_lt hi; omega
theorem places_len (p part : List Int) : (placesOf p part).length ≤ p.length := by
  have := List.length_filter_le (fun i => decide (pre p part.length i = part)) (List.range p.length)
  rw [List.length_range] at this
  exact this
theorem any_zero (xs : List Nat) : ((ints xs).any fun x => decide ((0 : Int) = x)) = decide ((0 : Nat) ∈ xs) := by
  rw [Bool.eq_iff_iff, List.any_eq_true, decide_eq_true_eq]
  constructor
  · rintro ⟨x, hx, h⟩
    obtain ⟨i, hi, rfl⟩ := List.mem_map.1 hx
    have h := of_decide_eq_true h
    rw [show (0 : Nat) = i by omega]; exact hi
  · intro h
    exact ⟨0, List.mem_map.2 ⟨0, h, rfl⟩, by simp⟩
theorem plc_lt {l : List (List Str)} {i : Nat} (h : i < (numsOf l).length) : i < (plcFrom 0 l).length := by rw [plc_length (numOf (wordsOf l))]; exact h
theorem places_ok {l : List (List Str)} {b : List Int} {i : Nat} (h : i ∈ placesOf (ints (numsOf l)) b) : i < (plcFrom 0 l).length := by
  have := placesOf_lt h
  rw [ints_length] at this
  exact plc_lt this
theorem hits_all {l : List (List Str)} {p : List Str} (hp : p ≠ []) (h0 : (0 : Nat) ∉ p.map (numOf (wordsOf l))) : (placesOf (ints (numsOf l)) (ints (p.map (numOf (wordsOf l))))).map (fun i => (plcFrom 0 l).getD i (0, 0)) = hitsOf l p := by
  have := find_all (l := l) hp
  rw [if_neg h0] at this
  rw [places_ints]; exact this
theorem hits_zero {l : List (List Str)} {p : List Str} (hp : p ≠ []) (h0 : (0 : Nat) ∈ p.map (numOf (wordsOf l))) : hitsOf l p = [] := by
  have := find_all (l := l) hp
  rw [if_pos h0] at this
  exact this.symm
theorem hits_len {l : List (List Str)} (h : Corp l) (p : List Str) : (hitsOf l p).length ≤ 1200 := by
  have key : ∀ (l : List (List Str)) (i : Nat), (hitsFrom p i l).length ≤ l.flatten.length := by
    intro l
    induction l with
    | nil => intro i; simp [hitsFrom]
    | cons s l ih =>
      intro i
      have h1 := ih (i + 1)
      have h2 := List.length_filter_le (fun k => standsAt s k p) (List.range s.length)
      rw [List.length_range] at h2
      simp only [hitsFrom, hitsIn, List.length_append, List.length_map, List.flatten_cons]
      omega
  have h1 := key l 0
  have h2 := flatten_le (m := 12) fun s hs => (h.each s hs).2.1
  have := h.len
  unfold hitsOf
  omega

set_option maxHeartbeats 4000000 in
theorem find_spec (vl vw vp vo vz v1 : Value) (l : List (List Str)) (p : List Str) (hc : Corp l) : FnW Tryz.prog 33 #[idxV vl vw vp vo vz, v1] ([idxD vl vw vp vo vz l, sl strR v1 p, u8].map dat) (fun u H' => ∃ u0, u = .tuple #[u0, fv (partF p)] ∧ u0.oneCell' = true ∧ H' = [dat (sl hitR u0 (fnH l p))]) := by
  refine FnW.body (args := [idxV vl vw vp vo vz, v1]) 71 Tryz.func33 rfl Tryz.ntmps33 rfl (fun c hdr => ?_)
  refine St.seq ?_
  refine St.cast (H' := [dat (idxD vl vw vp vo vz l), dat (sl strR v1 p), dat u8]) rfl ?_
  refine St.openD (idxD vl vw vp vo vz l) (fun _ : Unit => idxL vl vw vp vo vz l) (fun ρ h => ⟨(), h⟩) (fun _ => ?_)
  unfold idxL
  refine St.appl ?_
  refine St.wf v1 (fun hwf hlen => ?_)
  have hwl := wordsOf_len hc
  have hsst := wordsOf_sst l
  have hng := nums_good hc
  have hnl := numsOf_len hc
  refine St.rg ?_
  refine St.boxA (Opd.mk rfl) rfl (fun b2 => ?_)
  refine St.ev _ (Ev.assign (Opd.mk rfl)) rfl ?_
  refine St.alloc zc30 rfl (fun b5 => ?_)
  refine St.nil ?_
  refine St.then_normal ?_
  refine St.seq ?_
  refine St.seq ?_
  refine St.rg ?_
  refine St.ev _ (Ev.move (Opd.mk rfl)) rfl ?_
  refine St.ev _ (Ev.lensl (Opd.mk rfl) Tryz.underlying23) rfl ?_
  refine St.ev _ (Ev.eql (Opd.mk rfl) (Opd.mk rfl)) rfl ?_
  refine St.ev _ (Ev.move (Opd.mk rfl)) rfl ?_
  refine St.gf _ rfl rfl (fun hg => Ev.move (Opd.mk rfl)) rfl ?_
  refine St.gf _ rfl rfl (fun hg => Ev.lensl (Opd.gv rfl hg) Tryz.underlying23) rfl ?_
  refine St.gf _ rfl rfl (fun hg => Ev.gtr (Opd.gv rfl hg) (Opd.mk rfl)) rfl ?_
  refine St.ev _ (Ev.or (Opd.mk rfl) (fun hp => Opd.gv rfl hp)) rfl ?_
  refine St.nil ?_
  refine St.then_normal ?_
  refine St.cond _ rfl (fun h21 => ?_) (fun h21 => ?_)
  · skip
    try simp only [Bool.and_true, Bool.true_and, decide_eq_true_eq, decide_eq_false_iff_not, Bool.and_eq_true, Bool.or_eq_true, Bool.and_eq_false_iff, Bool.or_eq_false_iff, Bool.not_eq_true', Bool.not_eq_false', beq_iff_eq, beq_eq_false_iff_ne, Int.not_lt, Int.not_le] at h21
    have hpf : partF p = (9, -1) := by unfold partF; rw [if_pos (by omega)]
    refine St.seq ?_
    refine St.rg ?_
    refine St.ev _ (Ev.build (ps := [(0, (Operand.const (Value.int IntKind.i64 9))), (1, (Operand.const (Value.int IntKind.i64 (-1))))]) (Opds.cons (Opd.mk rfl) (Opds.cons (Opd.mk rfl) Opds.nil)) (fun w => bld30_0_1 rfl rfl w)) rfl ?_
    refine St.ev _ (Ev.assign (Opd.mk rfl)) rfl ?_
    refine St.storeA (Opd.mk rfl) (Opd.mk rfl) sz30 (by first | simp only [List.length_cons, List.length_nil] | rfl) rfl ?_
    refine St.nil ?_
    refine St.then_normal ?_
    refine St.rett ?_
    refine St.then_ret ?_
    refine St.slNil hitR ?_
    refine St.rets [_, _] [dat (sl hitR (.slice none 0 0) [])] Tryz.results33 ⟨rfl, ⟨⟨_, _, _, _, rfl, InB.mem, .inl ⟨⟨_, Tryz.underlying30⟩, sz30, rfl⟩⟩, trivial⟩⟩ ?_ (fun _ hw => hw.sub)
    rw [fnH_f (by rw [hpf]; decide), hpf]; exact ⟨_, rfl, rfl, rfl⟩
  · skip
    try simp only [Bool.and_true, Bool.true_and, decide_eq_true_eq, decide_eq_false_iff_not, Bool.and_eq_true, Bool.or_eq_true, Bool.and_eq_false_iff, Bool.or_eq_false_iff, Bool.not_eq_true', Bool.not_eq_false', beq_iff_eq, beq_eq_false_iff_ne, Int.not_lt, Int.not_le] at h21
    refine St.skip ?_
    refine St.then_normal ?_
    refine St.seq ?_
    refine St.rg ?_
    refine St.ev _ (Ev.assign (Opd.mk rfl)) rfl ?_
    refine St.nil ?_
    refine St.then_normal ?_
    refine St.seq ?_
    refine St.seq ?_
    refine St.rg ?_
    refine St.ev _ (Ev.move (Opd.mk rfl)) rfl ?_
    refine St.ev _ (Ev.lensl (Opd.mk rfl) Tryz.underlying23) rfl ?_
    refine St.ev _ (Ev.move (Opd.mk rfl)) rfl ?_
    refine St.nil ?_
    refine St.then_normal ?_
    refine St.block ?_
    refine St.nilrow 3 1 ?_
    refine St.rowEqN (.slice none 0 0) (show _ = ((p.take 0).map (numOf (wordsOf l))).length from rfl) (show _ = rows intR (ints ((p.take 0).map (numOf (wordsOf l)))) from rfl) ?_
    refine St.loopH2 (ι := Nat) (κ := Value) (fun k z T => (25, iv k) :: (6, z) :: T) (fun k z => [row z 3 1 ((p.take k).map (numOf (wordsOf l))).length (rows intR (ints ((p.take k).map (numOf (wordsOf l))))), blk b2 (.cells [vl, vw, vp, vo, vz].toArray 28 (0, 0)), blk b5 (.cells [iv 0, iv 0].toArray 30 (0, 0)), dat (nsl strR vl l), dat (sl strR vw (wordsOf l)), dat (sl intR vp (ints (numsOf l))), dat (sl intR vo (ints (sufOf (ints (numsOf l))))), dat (sl hitR vz (plcFrom 0 l)), dat (sl strR v1 p), dat u8]) (fun k z => k ≤ p.length ∧ z.oneCell' = true ∧ partF p = partFrom k (p.drop k)) (fun k z => p.length - k) 0 (.slice none 0 0) (Keep.cons 2 rfl (Keep.cons 5 rfl (Keep.cons 23 rfl (Keep.cons 24 rfl Keep.nil)))) ⟨Nat.zero_le _, rfl, by unfold partF; rw [if_neg (by omega)]; rfl⟩ (by repeat (first | exact Sub.nil | refine Sub.cons (by first | rfl | exact congrArg (fun z => some (iv z)) (by first | omega | (dsimp only; omega)) | exact congrArg (fun z => some (Value.bool z)) (by first | assumption | exact Eq.symm (by assumption))) ?_)) (fun _ hw => hw.sub) ?_
    intro k z hphi
    obtain ⟨hk, hz1, hv⟩ := hphi
    have hpl : ((p.take k).map (numOf (wordsOf l))).length ≤ 12 := by rw [List.length_map, List.length_take]; omega
    refine St.seq ?_
    refine St.rg ?_
    refine St.ev _ (Ev.lss (Opd.mk rfl) (Opd.mk rfl)) rfl ?_
    refine St.nil ?_
    refine St.then_normal ?_
    refine St.seq ?_
    refine St.cond _ rfl (fun h26 => ?_) (fun h26 => ?_)
    · skip
      try simp only [Bool.and_true, Bool.true_and, decide_eq_true_eq, decide_eq_false_iff_not, Bool.and_eq_true, Bool.or_eq_true, Bool.and_eq_false_iff, Bool.or_eq_false_iff, Bool.not_eq_true', Bool.not_eq_false', beq_iff_eq, beq_eq_false_iff_ne, Int.not_lt, Int.not_le] at h26
      obtain ⟨w, hw⟩ := some_of_lt (show k < p.length by omega)
      have hwm := List.mem_of_getElem? hw
      refine St.skip ?_
      refine St.then_normal ?_
      refine St.seq ?_
      refine St.block ?_
      refine St.seq ?_
      refine St.rg ?_
      refine St.ev _ (Ev.move (Opd.mk rfl)) rfl ?_
      refine St.ev _ (Ev.idxaddr (k := k) (Opd.mk rfl) (Opd.mk rfl) Tryz.underlying23 sz9 (by omega) (by omega)) rfl ?_
      refine St.ev _ (Ev.ld1 (Opd.mk rfl) hw Tryz.underlying9 trivial rfl) rfl ?_
      refine St.ev _ (Ev.assign (Opd.mk rfl)) rfl ?_
      refine St.ev _ (Ev.assign (Opd.mk rfl)) rfl ?_
      refine St.nil ?_
      refine St.then_normal ?_
      refine St.seq ?_
      refine St.seq ?_
      refine St.rg ?_
      refine St.ev _ (Ev.move (Opd.mk rfl)) rfl ?_
      refine St.ev _ (Ev.callW hdr (Word_spec w (wlen (hwf w hwm))) cb34 (Opds.cons (Opd.mk rfl) Opds.nil)) rfl ?_
      refine St.ev _ (Ev.not (Opd.mk rfl)) rfl ?_
      refine St.nil ?_
      refine St.then_normal ?_
      refine St.cond _ rfl (fun h32 => ?_) (fun h32 => ?_)
      · skip
        simp only [Bool.not_eq_true', Bool.not_eq_false'] at h32
        have hpf : partF p = (10, (k : Int)) := by rw [hv, partFrom_step hw, if_neg (by rw [h32]; decide)]
        refine St.seq ?_
        refine St.rg ?_
        refine St.ev _ (Ev.move (Opd.mk rfl)) rfl ?_
        refine St.ev _ (Ev.build (ps := [(0, (Operand.const (Value.int IntKind.i64 10))), (1, (Operand.tmp 33))]) (Opds.cons (Opd.mk rfl) (Opds.cons (Opd.mk rfl) Opds.nil)) (fun w => bld30_0_1 rfl rfl w)) rfl ?_
        refine St.ev _ (Ev.assign (Opd.mk rfl)) rfl ?_
        refine St.storeA (Opd.mk rfl) (Opd.mk rfl) sz30 (by first | simp only [List.length_cons, List.length_nil] | rfl) rfl ?_
        refine St.nil ?_
        refine St.then_normal ?_
        refine St.rett ?_
        refine St.then_ret ?_
        refine St.in_ret ?_
        refine St.then_ret ?_
        refine St.then_ret ?_
        refine St.in_ret ?_
        refine St.then_ret ?_
        refine St.slNil hitR ?_
        refine St.rets [_, _] [dat (sl hitR (.slice none 0 0) [])] Tryz.results33 ⟨rfl, ⟨⟨_, _, _, _, rfl, InB.mem, .inl ⟨⟨_, Tryz.underlying30⟩, sz30, rfl⟩⟩, trivial⟩⟩ ?_ (fun _ hw => hw.sub)
        rw [fnH_f (by rw [hpf]; show (10 : Int) ≠ 0; decide), hpf]; exact ⟨_, rfl, rfl, rfl⟩
      · skip
        simp only [Bool.not_eq_true', Bool.not_eq_false'] at h32
        refine St.skip ?_
        refine St.then_normal ?_
        refine St.rg ?_
        refine St.ev _ (Ev.move (Opd.mk rfl)) rfl ?_
        refine St.ev _ (Ev.ldbA (Opd.mk rfl) Tryz.underlying28 trivial (by exact sz28)) rfl ?_
        refine St.ev _ (Ev.move (Opd.mk rfl)) rfl ?_
        refine St.ev _ (Ev.call (number_spec vl vw vp vo vz (wordsOf l) w hsst (by omega)) cb30 (Opds.cons (Opd.mk rfl) (Opds.cons (Opd.mk rfl) Opds.nil))) rfl ?_
        refine St.buildSl (xs := [(Operand.tmp 38)]) (ps := [(0, (Operand.tmp 38))]) rfl (Opds.cons (Opd.mk rfl) Opds.nil) Tryz.underlying25 sz3 zv3 rfl rfl (by simp [Value.cells]) rfl rfl (fun b39 => ?_)
        refine St.appendRow (Opd.mk rfl) (Opd.mk rfl) Tryz.underlying25 sz3 zv3 by3 (by simp [Value.oneCell', Value.cells]) (by omega) (by omega) rfl rfl rfl rfl (fun v40 hv40 => ?_)
        refine St.rowEqN v40 (show _ = ((p.take (k + 1)).map (numOf (wordsOf l))).length by rw [take_of_some hw, List.map_append]; exact len_snoc) (show _ = rows intR (ints ((p.take (k + 1)).map (numOf (wordsOf l)))) from rowsI_snoc (by rw [take_of_some hw]; simp)) ?_
        refine St.rowOne v40 (fun h40 _ => ?_)
        refine St.ev _ (Ev.assign (Opd.mk rfl)) rfl ?_
        refine St.nil ?_
        refine St.in_normal ?_
        refine St.then_normal ?_
        refine St.rg ?_
        refine St.ev _ (Ev.add (Opd.mk rfl) (Opd.mk rfl) (by omega)) rfl ?_
        refine St.ev _ (Ev.move (Opd.mk rfl)) rfl ?_
        refine St.nil ?_
        refine St.then_normal ?_
        refine St.againH2 (k + 1) v40 ⟨by omega, h40, by rw [hv, partFrom_step hw, if_pos h32]⟩ (by first | omega | (dsimp only; omega)) (by repeat (first | exact Sub.nil | refine Sub.cons (by first | rfl | exact congrArg (fun z => some (iv z)) (by first | omega | (dsimp only; omega)) | exact congrArg (fun z => some (Value.bool z)) (by first | assumption | exact Eq.symm (by assumption))) ?_)) (fun _ hw => hw.sub)
    · skip
      try simp only [Bool.and_true, Bool.true_and, decide_eq_true_eq, decide_eq_false_iff_not, Bool.and_eq_true, Bool.or_eq_true, Bool.and_eq_false_iff, Bool.or_eq_false_iff, Bool.not_eq_true', Bool.not_eq_false', beq_iff_eq, beq_eq_false_iff_ne, Int.not_lt, Int.not_le] at h26
      obtain rfl : k = p.length := by omega
      rw [List.take_length] at hpl ⊢
      have hpz : partF p = (0, 0) := by rw [hv, List.drop_of_length_le (by omega)]; rfl
      have hpne : p ≠ [] := by rintro rfl; simp at h21
      refine St.publish z intR (ints (p.map (numOf (wordsOf l)))) rfl (ints_length _).symm (nums_le_of hc p) ?_
      refine St.exit ?_
      refine St.then_exit ?_
      refine St.then_exit ?_
      refine St.in_hit ?_
      refine St.then_normal ?_
      refine St.seq ?_
      refine St.seq ?_
      refine St.rg ?_
      refine St.ev _ (Ev.move (Opd.mk rfl)) rfl ?_
      refine St.ev _ (Ev.call (ContainsI_spec z (ints (p.map (numOf (wordsOf l)))) 0) cb48 (Opds.cons (Opd.mk rfl) (Opds.cons (Opd.mk rfl) Opds.nil))) rfl ?_
      refine St.nil ?_
      refine St.then_normal ?_
      refine St.cond _ rfl (fun h43 => ?_) (fun h43 => ?_)
      · skip
        rw [any_zero] at h43; simp only [decide_eq_true_eq, decide_eq_false_iff_not] at h43
        refine St.seq ?_
        refine St.rg ?_
        refine St.ev _ (Ev.build (ps := []) (Opds.nil) (fun w => bld30_  w)) rfl ?_
        refine St.ev _ (Ev.assign (Opd.mk rfl)) rfl ?_
        refine St.storeA (Opd.mk rfl) (Opd.mk rfl) sz30 (by first | simp only [List.length_cons, List.length_nil] | rfl) rfl ?_
        refine St.nil ?_
        refine St.then_normal ?_
        refine St.rett ?_
        refine St.then_ret ?_
        refine St.slNil hitR ?_
        refine St.rets [_, _] [dat (sl hitR (.slice none 0 0) [])] Tryz.results33 ⟨rfl, ⟨⟨_, _, _, _, rfl, InB.mem, .inl ⟨⟨_, Tryz.underlying30⟩, sz30, rfl⟩⟩, trivial⟩⟩ ?_ (fun _ hw => hw.sub)
        rw [fnH_t (by rw [hpz]), hits_zero hpne h43, hpz]; exact ⟨_, rfl, rfl, rfl⟩
      · skip
        rw [any_zero] at h43; simp only [decide_eq_true_eq, decide_eq_false_iff_not] at h43
        refine St.skip ?_
        refine St.then_normal ?_
        refine St.seq ?_
        refine St.rg ?_
        refine St.ev _ (Ev.fldb0 (Opd.mk rfl) fo28_2) rfl ?_
        refine St.ev _ (Ev.ldb (Opd.mk rfl) Tryz.underlying25 trivial (by rfl)) rfl ?_
        refine St.ev _ (Ev.fldb0 (Opd.mk rfl) fo28_3) rfl ?_
        refine St.ev _ (Ev.ldb (Opd.mk rfl) Tryz.underlying25 trivial (by rfl)) rfl ?_
        refine St.ev _ (Ev.move (Opd.mk rfl)) rfl ?_
        refine St.calld (Find_spec vp vo z (ints (numsOf l)) (ints (sufOf (ints (numsOf l)))) (ints (p.map (numOf (wordsOf l)))) (by rw [ints_length, List.length_map]; omega)) cb49 (Opds.cons (Opd.mk rfl) (Opds.cons (Opd.mk rfl) (Opds.cons (Opd.mk rfl) Opds.nil))) rfl ?_
        rintro v51 _ ⟨uf, rfl, huf, rfl⟩
        refine St.app1 ?_
        have hbz := bothF_3 (p := ints (numsOf l)) (ord := ints (sufOf (ints (numsOf l)))) (by rw [hng]) rfl
        rw [fnd_t (by rw [hbz]), hbz]
        refine St.publish uf intR (ints (placesOf (ints (numsOf l)) (ints (p.map (numOf (wordsOf l)))))) rfl (ints_length _).symm (places_wf (by rw [ints_length]; omega)) ?_
        generalize hpc : placesOf (ints (numsOf l)) (ints (p.map (numOf (wordsOf l)))) = pc
        have hpb : ∀ i ∈ pc, i < (plcFrom 0 l).length := fun i hi => places_ok (b := ints (p.map (numOf (wordsOf l)))) (by rw [hpc]; exact hi)
        have hpcl : pc.length ≤ 1300 := by have := places_len (ints (numsOf l)) (ints (p.map (numOf (wordsOf l)))); rw [hpc, ints_length] at this; omega
        have hip := ints_length pc
        refine St.ev _ (Ev.move (Opd.mk rfl)) rfl ?_
        refine St.ev _ (Ev.extract (Opd.mk rfl) rfl) rfl ?_
        refine St.ev _ (Ev.extract (Opd.mk rfl) rfl) rfl ?_
        refine St.alloc zc30 rfl (fun b10 => ?_)
        refine St.ev _ (Ev.assign (Opd.mk rfl)) rfl ?_
        refine St.storeA (Opd.mk rfl) (Opd.mk rfl) sz30 (by first | simp only [List.length_cons, List.length_nil] | rfl) rfl ?_
        refine St.nil ?_
        refine St.then_normal ?_
        refine St.seq ?_
        refine St.rg ?_
        refine St.ev _ (Ev.assign (Opd.mk rfl)) rfl ?_
        refine St.nil ?_
        refine St.then_normal ?_
        refine St.seq ?_
        refine St.seq ?_
        refine St.rg ?_
        refine St.ev _ (Ev.move (Opd.mk rfl)) rfl ?_
        refine St.ev _ (Ev.lensl (Opd.mk rfl) Tryz.underlying25) rfl ?_
        refine St.ev _ (Ev.move (Opd.mk rfl)) rfl ?_
        refine St.nil ?_
        refine St.then_normal ?_
        refine St.block ?_
        refine St.nilrow 67 2 ?_
        refine St.rowEqN (.slice none 0 0) (show _ = ((pc.take 0).map (fun i => (plcFrom 0 l).getD i (0, 0))).length from rfl) (show _ = rows hitR ((pc.take 0).map (fun i => (plcFrom 0 l).getD i (0, 0))) from rfl) ?_
        refine St.loopH2 (ι := Nat) (κ := Value) (fun k z2 T => (56, iv k) :: (11, z2) :: T) (fun k z2 => [row z2 67 2 ((pc.take k).map (fun i => (plcFrom 0 l).getD i (0, 0))).length (rows hitR ((pc.take k).map (fun i => (plcFrom 0 l).getD i (0, 0)))), blk b2 (.cells [vl, vw, vp, vo, vz].toArray 28 (0, 0)), blk b5 (.cells [iv 0, iv 0].toArray 30 (0, 0)), dat (sl intR uf (ints pc)), dat (sl hitR vz (plcFrom 0 l))]) (fun k z2 => k ≤ pc.length ∧ z2.oneCell' = true) (fun k z2 => pc.length - k) 0 (.slice none 0 0) (Keep.cons 2 rfl (Keep.cons 5 rfl (Keep.cons 54 rfl (Keep.cons 55 rfl Keep.nil)))) ⟨Nat.zero_le _, rfl⟩ (by repeat (first | exact Sub.nil | refine Sub.cons (by first | rfl | exact congrArg (fun z => some (iv z)) (by first | omega | (dsimp only; omega)) | exact congrArg (fun z => some (Value.bool z)) (by first | assumption | exact Eq.symm (by assumption))) ?_)) (fun _ hw => hw.sub) ?_
        intro k z2 hphi
        obtain ⟨hk, hz2⟩ := hphi
        have hp2 : ((pc.take k).map (fun i => (plcFrom 0 l).getD i (0, 0))).length ≤ 1300 := by rw [List.length_map, List.length_take]; omega
        refine St.seq ?_
        refine St.rg ?_
        refine St.ev _ (Ev.lss (Opd.mk rfl) (Opd.mk rfl)) rfl ?_
        refine St.nil ?_
        refine St.then_normal ?_
        refine St.seq ?_
        refine St.cond _ rfl (fun h57 => ?_) (fun h57 => ?_)
        · skip
          try simp only [Bool.and_true, Bool.true_and, decide_eq_true_eq, decide_eq_false_iff_not, Bool.and_eq_true, Bool.or_eq_true, Bool.and_eq_false_iff, Bool.or_eq_false_iff, Bool.not_eq_true', Bool.not_eq_false', beq_iff_eq, beq_eq_false_iff_ne, Int.not_lt, Int.not_le] at h57
          obtain ⟨i, hi⟩ := some_of_lt (show k < pc.length by omega)
          have hib := hpb i (List.mem_of_getElem? hi)
          have hii : (ints pc)[k]? = some ((i : Nat) : Int) := by rw [List.getElem?_map, hi]; rfl
          obtain ⟨h, hh⟩ := some_of_lt hib
          refine St.skip ?_
          refine St.then_normal ?_
          refine St.seq ?_
          refine St.block ?_
          refine St.seq ?_
          refine St.rg ?_
          refine St.ev _ (Ev.idxaddr (k := k) (Opd.mk rfl) (Opd.mk rfl) Tryz.underlying25 sz3 (by omega) (by omega)) rfl ?_
          refine St.ev _ (Ev.ld1 (Opd.mk rfl) hii Tryz.underlying3 trivial rfl) rfl ?_
          refine St.ev _ (Ev.assign (Opd.mk rfl)) rfl ?_
          refine St.nil ?_
          refine St.then_normal ?_
          refine St.rg ?_
          refine St.ev _ (Ev.move (Opd.mk rfl)) rfl ?_
          refine St.ev _ (Ev.fldb0 (Opd.mk rfl) fo28_4) rfl ?_
          refine St.ev _ (Ev.ldb (Opd.mk rfl) Tryz.underlying26 trivial (by rfl)) rfl ?_
          refine St.ev _ (Ev.move (Opd.mk rfl)) rfl ?_
          refine St.ev _ (Ev.idxaddr (k := i) (Opd.mk rfl) (Opd.mk rfl) Tryz.underlying26 sz67 (by omega) (by omega)) rfl ?_
          refine St.ev _ (Ev.ldA (Opd.mk rfl) hh Tryz.underlying67 trivial sz67 Cel.eq) rfl ?_
          refine St.buildSl (xs := [(Operand.tmp 65)]) (ps := [(0, (Operand.tmp 65))]) rfl (Opds.cons (Opd.mk rfl) Opds.nil) Tryz.underlying26 sz67 zv67 rfl rfl (by simp [Value.cells]) rfl rfl (fun b66 => ?_)
          refine St.appendRow (Opd.mk rfl) (Opd.mk rfl) Tryz.underlying26 sz67 zv67 by67 (by simp [Value.oneCell', Value.cells]) (by omega) (by omega) rfl rfl rfl rfl (fun v67 hv67 => ?_)
          refine St.rowEqN v67 (show _ = ((pc.take (k + 1)).map (fun i => (plcFrom 0 l).getD i (0, 0))).length by rw [take_of_some hi, List.map_append]; exact len_snoc) (show _ = rows hitR ((pc.take (k + 1)).map (fun i => (plcFrom 0 l).getD i (0, 0))) from rowsH_snoc (n := h) (by rw [take_of_some hi, List.map_append, List.map_cons, List.map_nil, getD_of_some hh])) ?_
          refine St.rowOne v67 (fun h67 _ => ?_)
          refine St.ev _ (Ev.assign (Opd.mk rfl)) rfl ?_
          refine St.nil ?_
          refine St.in_normal ?_
          refine St.then_normal ?_
          refine St.rg ?_
          refine St.ev _ (Ev.add (Opd.mk rfl) (Opd.mk rfl) (by omega)) rfl ?_
          refine St.ev _ (Ev.move (Opd.mk rfl)) rfl ?_
          refine St.nil ?_
          refine St.then_normal ?_
          refine St.againH2 (k + 1) v67 ⟨by omega, h67⟩ (by first | omega | (dsimp only; omega)) (by repeat (first | exact Sub.nil | refine Sub.cons (by first | rfl | exact congrArg (fun z => some (iv z)) (by first | omega | (dsimp only; omega)) | exact congrArg (fun z => some (Value.bool z)) (by first | assumption | exact Eq.symm (by assumption))) ?_)) (fun _ hw => hw.sub)
        · skip
          try simp only [Bool.and_true, Bool.true_and, decide_eq_true_eq, decide_eq_false_iff_not, Bool.and_eq_true, Bool.or_eq_true, Bool.and_eq_false_iff, Bool.or_eq_false_iff, Bool.not_eq_true', Bool.not_eq_false', beq_iff_eq, beq_eq_false_iff_ne, Int.not_lt, Int.not_le] at h57
          obtain rfl : k = pc.length := by omega
          rw [List.take_length]
          have hend := hits_all (l := l) hpne h43
          rw [hpc] at hend
          rw [hend]
          refine St.exit ?_
          refine St.then_exit ?_
          refine St.then_exit ?_
          refine St.in_hit ?_
          refine St.then_normal ?_
          refine St.seq ?_
          refine St.rg ?_
          refine St.ev _ (Ev.move (Opd.mk rfl)) rfl ?_
          refine St.ev _ (Ev.build (ps := []) (Opds.nil) (fun w => bld30_  w)) rfl ?_
          refine St.ev _ (Ev.assign (Opd.mk rfl)) rfl ?_
          refine St.storeA (Opd.mk rfl) (Opd.mk rfl) sz30 (by first | simp only [List.length_cons, List.length_nil] | rfl) rfl ?_
          refine St.nil ?_
          refine St.then_normal ?_
          refine St.rett ?_
          refine St.publish z2 hitR (hitsOf l p) rfl rfl (fun _ _ => trivial) ?_
          refine St.rets [_, _] [dat (sl hitR z2 (hitsOf l p))] Tryz.results33 ⟨rfl, ⟨⟨_, _, _, _, rfl, InB.mem, .inl ⟨⟨_, Tryz.underlying30⟩, sz30, rfl⟩⟩, trivial⟩⟩ ?_ (fun _ hw => hw.sub)
          rw [fnH_t (by rw [hpz]), hpz]; exact ⟨_, rfl, hz2, rfl⟩

theorem Count_spec (vl vw vp vo vz v1 : Value) (l : List (List Str)) (p : List Str) (hc : Corp l) : FnVw Tryz.prog 13 #[idxV vl vw vp vo vz, v1] [idxD vl vw vp vo vz l, sl strR v1 p, u8] (.tuple #[iv ((fnH l p).length : Nat), fv (partF p)]) := by
  refine FnVw.body (args := [idxV vl vw vp vo vz, v1]) (ds := [(idxD vl vw vp vo vz l), (sl strR v1 p), u8]) 17 Tryz.func13 rfl Tryz.ntmps13 rfl (fun c hdr => ?_)
  change St _ _ (Mm c [dat (idxD vl vw vp vo vz l), dat (sl strR v1 p), dat u8]) _
  refine St.seq ?_
  refine St.rg ?_
  refine St.boxA (Opd.mk rfl) rfl (fun b2 => ?_)
  refine St.ev _ (Ev.assign (Opd.mk rfl)) rfl ?_
  refine St.alloc zc30 rfl (fun b5 => ?_)
  refine St.nil ?_
  refine St.then_normal ?_
  refine St.seq ?_
  refine St.rg ?_
  refine St.ev _ (Ev.ldbA (Opd.mk rfl) Tryz.underlying28 trivial (by exact sz28)) rfl ?_
  refine St.ev _ (Ev.move (Opd.mk rfl)) rfl ?_
  refine St.calldW hdr (find_spec vl vw vp vo vz v1 l p hc) cb33 (Opds.cons (Opd.mk rfl) (Opds.cons (Opd.mk rfl) Opds.nil)) rfl ?_
  rintro v11 _ ⟨uf, rfl, huf, rfl⟩
  refine St.app1 ?_
  refine St.ev _ (Ev.move (Opd.mk rfl)) rfl ?_
  refine St.ev _ (Ev.extract (Opd.mk rfl) rfl) rfl ?_
  refine St.ev _ (Ev.extract (Opd.mk rfl) rfl) rfl ?_
  refine St.alloc zc30 rfl (fun b7 => ?_)
  refine St.ev _ (Ev.assign (Opd.mk rfl)) rfl ?_
  refine St.storeA (Opd.mk rfl) (Opd.mk rfl) sz30 (by first | simp only [List.length_cons, List.length_nil] | rfl) rfl ?_
  refine St.nil ?_
  refine St.then_normal ?_
  refine St.seq ?_
  refine St.par [b5] mixed ?_
  refine SW.defer 0 (by repeat (first | refine NP.then ?_ | refine NP.inBlock ?_ | exact NP.body)) (by kernel_rfl) rfl (fun R => Ev.move (Opd.mk rfl)) (by kernel_rfl) rfl ?_
  refine SW.defer 1 (by repeat (first | refine NP.then ?_ | refine NP.inBlock ?_ | exact NP.body)) (by kernel_rfl) rfl (fun R => Ev.lensl (Opd.mk rfl) Tryz.underlying26) (by kernel_rfl) rfl ?_
  refine SW.defer 2 (by repeat (first | refine NP.then ?_ | refine NP.inBlock ?_ | exact NP.body)) (by kernel_rfl) rfl (fun R => Ev.ldbA (Opd.mk rfl) Tryz.underlying30 trivial (by exact sz30)) (by kernel_rfl) rfl ?_
  refine SW.defer 3 (by repeat (first | refine NP.then ?_ | refine NP.inBlock ?_ | exact NP.body)) (by kernel_rfl) rfl (fun R => Ev.assign (Opd.mk rfl)) (by kernel_rfl) rfl ?_
  refine SW.turn1 (i := 4) (by kernel_rfl) rfl ?_
  refine St.storeA (Opd.mk rfl) (Opd.mk rfl) sz30 (by first | simp only [List.length_cons, List.length_nil] | rfl) rfl ?_
  refine St.nil ?_
  refine St.then_normal ?_
  refine SW.go ?_
  refine SW.done (by kernel_rfl) ?_
  refine St.then_normal ?_
  refine St.rett ?_
  refine St.rets [_, _] [] Tryz.results13 ⟨rfl, ⟨⟨_, _, _, _, rfl, InB.mem, .inl ⟨⟨_, Tryz.underlying30⟩, sz30, rfl⟩⟩, trivial⟩⟩ ?_ (fun _ hw => hw.sub)
  rfl

end Go.Proofs.YtgikcbfdonjggaaGreatDoor
