/-
  The law of what neighbours share.
  Conditions: none.
-/
import Derived.Test.YtblmnncmkibhnaaW8
set_option linter.unusedSimpArgs false
set_option linter.unusedVariables false
namespace Go.Proofs.Ytblmnncmkibhnaa
open Go Go.J

noncomputable def comL (p ord : List Int) : List Nat := if (bothF p ord).1 = 0 then nears p (sufOf p) else []
theorem comL_t {p ord : List Int} (h : (bothF p ord).1 = 0) : comL p ord = nears p (sufOf p) := by unfold comL; rw [if_pos h]
theorem comL_f {p ord : List Int} (h : (bothF p ord).1 ≠ 0) : comL p ord = [] := by unfold comL; rw [if_neg h]
theorem nears_wf {p : List Int} {l : List Nat} (h : p.length ≤ 2000) : ∀ x ∈ ints (nears p l), intR.wf x := int_wf fun i hi => by
  obtain ⟨j, _, rfl⟩ := List.mem_map.1 hi
  have := near_le (p := p) (l := l) (k := j)
  omega
theorem comL_wf {p ord : List Int} : ∀ x ∈ ints (comL p ord), intR.wf x := by
  by_cases h : (bothF p ord).1 = 0
  · rw [comL_t h]; exact nears_wf (bothF_len h)
  · rw [comL_f h]; intro x hx; cases hx

theorem Common_spec (v0 v1 : Value) (p ord : List Int) : FnH Try.prog 19 #[v0, v1] ([sl intR v0 p, sl intR v1 ord].map dat) (fun u H' => ∃ u0 : Value, u = .tuple #[u0, fv (bothF p ord)] ∧ u0.oneCell' = true ∧ H' = [row u0 3 1 (comL p ord).length (rows intR (ints (comL p ord)))]) := by
  refine FnH.body (args := [v0, v1]) 18 Try.func19 rfl Try.ntmps19 rfl (fun c => ?_)
  refine St.seq ?_
  refine St.cast (H' := [dat (sl intR v0 p), dat (sl intR v1 ord)]) rfl ?_
  refine St.rg ?_
  refine St.ev _ (Ev.assign (Opd.mk rfl)) rfl ?_
  refine St.alloc zc25 rfl (fun b5 => ?_)
  refine St.nil ?_
  refine St.then_normal ?_
  refine St.seq ?_
  refine St.seq ?_
  refine St.rg ?_
  refine St.ev _ (Ev.move (Opd.mk rfl)) rfl ?_
  refine St.ev _ (Ev.move (Opd.mk rfl)) rfl ?_
  refine St.ev _ (Ev.call (both_spec v0 v1 p ord) cb27 (Opds.cons (Opd.mk rfl) (Opds.cons (Opd.mk rfl) Opds.nil))) rfl ?_
  refine St.alloc zc25 rfl (fun b6 => ?_)
  refine St.storeA (Opd.mk rfl) (Opd.mk rfl) sz25 (by first | simp only [List.length_cons, List.length_nil] | rfl) rfl ?_
  refine St.nil ?_
  refine St.then_normal ?_
  refine St.seq ?_
  refine St.rg ?_
  refine St.ev _ (Ev.fldb0 (Opd.mk rfl) fo25_0) rfl ?_
  refine St.ev _ (Ev.ldb (Opd.mk rfl) Try.underlying3 trivial (by rfl)) rfl ?_
  refine St.ev _ (Ev.neq (Opd.mk rfl) (Opd.mk rfl)) rfl ?_
  refine St.nil ?_
  refine St.then_normal ?_
  refine St.cond _ rfl (fun h12 => ?_) (fun h12 => ?_)
  · skip
    try simp only [Bool.and_true, Bool.true_and, decide_eq_true_eq, decide_eq_false_iff_not, Bool.and_eq_true, Bool.or_eq_true, Bool.and_eq_false_iff, Bool.or_eq_false_iff, Bool.not_eq_true', Bool.not_eq_false', beq_iff_eq, beq_eq_false_iff_ne, Int.not_lt, Int.not_le] at h12
    refine St.seq ?_
    refine St.par [b5] mixed ?_
    refine SW.defer 0 (by repeat (first | refine NP.then ?_ | refine NP.inBlock ?_ | exact NP.body)) (by kernel_rfl) rfl (fun R => Ev.ldbA (Opd.mk rfl) Try.underlying25 trivial (by exact sz25)) (by kernel_rfl) rfl ?_
    refine SW.defer 1 (by repeat (first | refine NP.then ?_ | refine NP.inBlock ?_ | exact NP.body)) (by kernel_rfl) rfl (fun R => Ev.assign (Opd.mk rfl)) (by kernel_rfl) rfl ?_
    refine SW.turn1 (i := 2) (by kernel_rfl) rfl ?_
    refine St.storeA (Opd.mk rfl) (Opd.mk rfl) sz25 (by first | simp only [List.length_cons, List.length_nil] | rfl) rfl ?_
    refine St.nil ?_
    refine St.then_normal ?_
    refine SW.go ?_
    refine SW.done (by kernel_rfl) ?_
    refine St.then_normal ?_
    refine St.rett ?_
    refine St.then_ret ?_
    refine St.nilrow 3 1 ?_
    refine St.rets [_, _] [row (.slice none 0 0) 3 1 0 []] Try.results19 ⟨rfl, ⟨⟨_, _, _, _, rfl, InB.mem, .inl ⟨⟨_, Try.underlying25⟩, sz25, rfl⟩⟩, trivial⟩⟩ ?_ (fun _ hw => hw.sub)
    rw [comL_f h12]; exact ⟨_, rfl, rfl, rfl⟩
  · skip
    try simp only [Bool.and_true, Bool.true_and, decide_eq_true_eq, decide_eq_false_iff_not, Bool.and_eq_true, Bool.or_eq_true, Bool.and_eq_false_iff, Bool.or_eq_false_iff, Bool.not_eq_true', Bool.not_eq_false', beq_iff_eq, beq_eq_false_iff_ne, Int.not_lt, Int.not_le] at h12
    obtain ⟨hf0, ho⟩ := bothF_ok (p := p) (ord := ord) (by omega)
    have hbz := bothF_3 hf0 ho
    subst ho
    have hok := sFault_ok hf0
    refine St.skip ?_
    refine St.then_normal ?_
    refine St.seq ?_
    refine St.rg ?_
    refine St.ev _ (Ev.move (Opd.mk rfl)) rfl ?_
    refine St.ev _ (Ev.move (Opd.mk rfl)) rfl ?_
    refine St.calld (common_spec v0 v1 p (sufOf p) (sufOf_is p) hok.1) cb36 (Opds.cons (Opd.mk rfl) (Opds.cons (Opd.mk rfl) Opds.nil)) rfl ?_
    rintro v16 _ ⟨h1, rfl⟩
    refine St.app1 ?_
    refine St.ev _ (Ev.build (ps := []) (Opds.nil) (fun w => bld25_  w)) rfl ?_
    refine St.ev _ (Ev.assign (Opd.mk rfl)) rfl ?_
    refine St.storeA (Opd.mk rfl) (Opd.mk rfl) sz25 (by first | simp only [List.length_cons, List.length_nil] | rfl) rfl ?_
    refine St.nil ?_
    refine St.then_normal ?_
    refine St.rett ?_
    refine St.rets [_, _] [row v16 3 1 p.length (rows intR (ints (nears p (sufOf p))))] Try.results19 ⟨rfl, ⟨⟨_, _, _, _, rfl, InB.mem, .inl ⟨⟨_, Try.underlying25⟩, sz25, rfl⟩⟩, trivial⟩⟩ ?_ (fun _ hw => hw.sub)
    rw [comL_t (by rw [hbz]), hbz]; exact ⟨_, rfl, h1, by rw [nears_len]⟩

theorem Shared_spec (v0 : Value) (p : List Int) (hn : p.length ≤ 2000) (a b : Nat) (ha : a ≤ 2000) (hb : b ≤ 2000) : FnV Try.prog 20 #[v0, iv a, iv b] [sl intR v0 p] (iv (lcp p a b : Nat)) := by
  refine FnV.body1 (args := [v0, iv a, iv b]) 40 Try.func20 rfl Try.ntmps20 rfl (fun c => ?_)
  refine St.seq ?_
  refine St.rg ?_
  refine St.ev _ (Ev.assign (Opd.mk rfl)) rfl ?_
  refine St.nil ?_
  refine St.then_normal ?_
  refine St.seq ?_
  refine St.rg ?_
  refine St.ev _ (Ev.assign (Opd.mk rfl)) rfl ?_
  refine St.nil ?_
  refine St.then_normal ?_
  refine St.seq ?_
  refine St.block ?_
  refine St.loopS (ι := Nat) (fun m T => (7, iv m) :: T) (fun m => m ≤ lcp p a b) (fun m => p.length - m) 0 (Keep.cons 0 rfl (Keep.cons 1 rfl (Keep.cons 2 rfl (Keep.cons 6 rfl Keep.nil)))) (Nat.zero_le _) (by repeat (first | exact Sub.nil | refine Sub.cons (by first | rfl | exact congrArg (fun z => some (iv z)) (by first | omega | (dsimp only; omega)) | exact congrArg (fun z => some (Value.bool z)) (by first | assumption | exact Eq.symm (by assumption))) ?_)) ?_
  intro m hphi
  have hmle := lcp_le (p := p) (i := a) (j := b)
  refine St.seq ?_
  refine St.seq ?_
  refine St.rq mixed (by kernel_rfl) (Mm.drawn _ _) ?_
  refine Sq.ev _ (Ev.move (Opd.mk rfl)) rfl ?_
  refine Sq.ev _ (Ev.move (Opd.mk rfl)) rfl ?_
  refine Sq.ev _ (Ev.add (Opd.mk rfl) (Opd.mk rfl) (by omega)) rfl ?_
  refine Sq.ev _ (Ev.move (Opd.mk rfl)) rfl ?_
  refine Sq.ev _ (Ev.lensl (Opd.mk rfl) Try.underlying22) rfl ?_
  refine Sq.ev _ (Ev.lss (Opd.mk rfl) (Opd.mk rfl)) rfl ?_
  refine Sq.ev _ (Ev.move (Opd.mk rfl)) rfl ?_
  refine Sq.gt _ rfl rfl (fun hg => Ev.move (Opd.mk rfl)) rfl ?_
  refine Sq.gt _ rfl rfl (fun hg => Ev.move (Opd.mk rfl)) rfl ?_
  refine Sq.gt _ rfl rfl (fun hg => Ev.add (Opd.gv rfl hg) (Opd.gv rfl hg) (by first | omega | (simp only [Bool.and_true, Bool.true_and, decide_eq_true_eq, decide_eq_false_iff_not, Bool.and_eq_true, Bool.or_eq_true, Bool.and_eq_false_iff, Bool.or_eq_false_iff, Bool.not_eq_true', Bool.not_eq_false', beq_iff_eq, beq_eq_false_iff_ne, Int.not_lt, Int.not_le] at hg; omega))) rfl ?_
  refine Sq.gt _ rfl rfl (fun hg => Ev.move (Opd.mk rfl)) rfl ?_
  refine Sq.gt _ rfl rfl (fun hg => Ev.lensl (Opd.gv rfl hg) Try.underlying22) rfl ?_
  refine Sq.gt _ rfl rfl (fun hg => Ev.lss (Opd.gv rfl hg) (Opd.gv rfl hg)) rfl ?_
  refine Sq.ev _ (Ev.and (Opd.mk rfl) (fun hp => Opd.gv rfl hp)) rfl ?_
  refine Sq.ev _ (Ev.move (Opd.mk rfl)) rfl ?_
  refine Sq.gt _ rfl rfl (fun hg => Ev.move (Opd.mk rfl)) rfl ?_
  refine Sq.gt _ rfl rfl (fun hg => Ev.move (Opd.mk rfl)) rfl ?_
  refine Sq.gt _ rfl rfl (fun hg => Ev.move (Opd.mk rfl)) rfl ?_
  refine Sq.gt _ rfl rfl (fun hg => Ev.add (Opd.gv rfl hg) (Opd.gv rfl hg) (by first | omega | (simp only [Bool.and_true, Bool.true_and, decide_eq_true_eq, decide_eq_false_iff_not, Bool.and_eq_true, Bool.or_eq_true, Bool.and_eq_false_iff, Bool.or_eq_false_iff, Bool.not_eq_true', Bool.not_eq_false', beq_iff_eq, beq_eq_false_iff_ne, Int.not_lt, Int.not_le] at hg; omega))) rfl ?_
  refine Sq.gt _ rfl rfl (fun hg => Ev.idxaddr (k := (a + m)) (Opd.gv rfl hg) (Opd.gv rfl hg) Try.underlying22 sz3 (by first | omega | (simp only [Bool.and_true, Bool.true_and, decide_eq_true_eq, decide_eq_false_iff_not, Bool.and_eq_true, Bool.or_eq_true, Bool.and_eq_false_iff, Bool.or_eq_false_iff, Bool.not_eq_true', Bool.not_eq_false', beq_iff_eq, beq_eq_false_iff_ne, Int.not_lt, Int.not_le] at hg; omega)) (by first | omega | (simp only [Bool.and_true, Bool.true_and, decide_eq_true_eq, decide_eq_false_iff_not, Bool.and_eq_true, Bool.or_eq_true, Bool.and_eq_false_iff, Bool.or_eq_false_iff, Bool.not_eq_true', Bool.not_eq_false', beq_iff_eq, beq_eq_false_iff_ne, Int.not_lt, Int.not_le] at hg; omega))) rfl ?_
  refine Sq.gt _ rfl rfl (fun hg => Ev.ld1 (Opd.gv rfl hg) (some_getD 0 (by first | omega | (simp only [Bool.and_true, Bool.true_and, decide_eq_true_eq, decide_eq_false_iff_not, Bool.and_eq_true, Bool.or_eq_true, Bool.and_eq_false_iff, Bool.or_eq_false_iff, Bool.not_eq_true', Bool.not_eq_false', beq_iff_eq, beq_eq_false_iff_ne, Int.not_lt, Int.not_le] at hg; omega))) Try.underlying3 trivial rfl) rfl ?_
  refine Sq.gt _ rfl rfl (fun hg => Ev.move (Opd.mk rfl)) rfl ?_
  refine Sq.gt _ rfl rfl (fun hg => Ev.move (Opd.mk rfl)) rfl ?_
  refine Sq.gt _ rfl rfl (fun hg => Ev.move (Opd.mk rfl)) rfl ?_
  refine Sq.gt _ rfl rfl (fun hg => Ev.add (Opd.gv rfl hg) (Opd.gv rfl hg) (by first | omega | (simp only [Bool.and_true, Bool.true_and, decide_eq_true_eq, decide_eq_false_iff_not, Bool.and_eq_true, Bool.or_eq_true, Bool.and_eq_false_iff, Bool.or_eq_false_iff, Bool.not_eq_true', Bool.not_eq_false', beq_iff_eq, beq_eq_false_iff_ne, Int.not_lt, Int.not_le] at hg; omega))) rfl ?_
  refine Sq.gt _ rfl rfl (fun hg => Ev.idxaddr (k := (b + m)) (Opd.gv rfl hg) (Opd.gv rfl hg) Try.underlying22 sz3 (by first | omega | (simp only [Bool.and_true, Bool.true_and, decide_eq_true_eq, decide_eq_false_iff_not, Bool.and_eq_true, Bool.or_eq_true, Bool.and_eq_false_iff, Bool.or_eq_false_iff, Bool.not_eq_true', Bool.not_eq_false', beq_iff_eq, beq_eq_false_iff_ne, Int.not_lt, Int.not_le] at hg; omega)) (by first | omega | (simp only [Bool.and_true, Bool.true_and, decide_eq_true_eq, decide_eq_false_iff_not, Bool.and_eq_true, Bool.or_eq_true, Bool.and_eq_false_iff, Bool.or_eq_false_iff, Bool.not_eq_true', Bool.not_eq_false', beq_iff_eq, beq_eq_false_iff_ne, Int.not_lt, Int.not_le] at hg; omega))) rfl ?_
  refine Sq.gt _ rfl rfl (fun hg => Ev.ld1 (Opd.gv rfl hg) (some_getD 0 (by first | omega | (simp only [Bool.and_true, Bool.true_and, decide_eq_true_eq, decide_eq_false_iff_not, Bool.and_eq_true, Bool.or_eq_true, Bool.and_eq_false_iff, Bool.or_eq_false_iff, Bool.not_eq_true', Bool.not_eq_false', beq_iff_eq, beq_eq_false_iff_ne, Int.not_lt, Int.not_le] at hg; omega))) Try.underlying3 trivial rfl) rfl ?_
  refine Sq.gt _ rfl rfl (fun hg => Ev.eql (Opd.gv rfl hg) (Opd.gv rfl hg)) rfl ?_
  refine Sq.ev _ (Ev.and (Opd.mk rfl) (fun hp => Opd.gv rfl hp)) rfl ?_
  refine Sq.nil ?_
  refine St.then_normal ?_
  refine St.cond _ rfl (fun h36 => ?_) (fun h36 => ?_)
  · skip
    try simp only [Bool.and_true, Bool.true_and, decide_eq_true_eq, decide_eq_false_iff_not, Bool.and_eq_true, Bool.or_eq_true, Bool.and_eq_false_iff, Bool.or_eq_false_iff, Bool.not_eq_true', Bool.not_eq_false', beq_iff_eq, beq_eq_false_iff_ne, Int.not_lt, Int.not_le] at h36
    refine St.skip ?_
    refine St.then_normal ?_
    refine St.block ?_
    refine St.rg ?_
    refine St.ev _ (Ev.move (Opd.mk rfl)) rfl ?_
    refine St.ev _ (Ev.add (Opd.mk rfl) (Opd.mk rfl) (by omega)) rfl ?_
    refine St.ev _ (Ev.assign (Opd.mk rfl)) rfl ?_
    refine St.nil ?_
    refine St.in_normal ?_
    refine St.then_normal ?_
    refine St.againS (m + 1) (lcp_more hphi (by omega) (by omega) h36.2) (by first | omega | (dsimp only; omega)) (by repeat (first | exact Sub.nil | refine Sub.cons (by first | rfl | exact congrArg (fun z => some (iv z)) (by first | omega | (dsimp only; omega)) | exact congrArg (fun z => some (Value.bool z)) (by first | assumption | exact Eq.symm (by assumption))) ?_)) (fun _ hw => hw.sub)
  · skip
    try simp only [Bool.and_true, Bool.true_and, decide_eq_true_eq, decide_eq_false_iff_not, Bool.and_eq_true, Bool.or_eq_true, Bool.and_eq_false_iff, Bool.or_eq_false_iff, Bool.not_eq_true', Bool.not_eq_false', beq_iff_eq, beq_eq_false_iff_ne, Int.not_lt, Int.not_le] at h36
    have hme := lcp_end hphi (by rintro ⟨q1, q2, q3⟩; rcases h36 with (q | q) | q; omega; omega; exact q q3)
    refine St.exit ?_
    refine St.then_exit ?_
    refine St.then_exit ?_
    refine St.in_hit ?_
    refine St.then_normal ?_
    refine St.seq ?_
    refine St.rg ?_
    refine St.ev _ (Ev.move (Opd.mk rfl)) rfl ?_
    refine St.ev _ (Ev.assign (Opd.mk rfl)) rfl ?_
    refine St.nil ?_
    refine St.then_normal ?_
    refine St.rett ?_
    refine St.rets [_] [] Try.results20 ⟨rfl, trivial⟩ ?_ (fun _ hw => hw.sub)
    exact ie (by rw [hme])

theorem law6_spec (v0 v1 : Value) (p ord : List Int) : FnV Try.prog 6 #[v0, v1] [sl intR v0 p, sl intR v1 ord] (.bool true) := by
  refine FnV.body2 (args := [v0, v1]) 96 Try.func6 rfl Try.ntmps6 rfl (fun c => ?_)
  refine St.seq ?_
  refine St.rg ?_
  refine St.ev _ (Ev.assign (Opd.mk rfl)) rfl ?_
  refine St.nil ?_
  refine St.then_normal ?_
  refine St.seq ?_
  refine St.seq ?_
  refine St.rg ?_
  refine St.ev _ (Ev.call (suffixReady_spec) cb11 (Opds.nil)) rfl ?_
  refine St.ev _ (Ev.not (Opd.mk rfl)) rfl ?_
  refine St.nil ?_
  refine St.then_normal ?_
  refine St.condf _ rfl rfl ?_
  refine St.skip ?_
  refine St.then_normal ?_
  refine St.seq ?_
  refine St.seq ?_
  refine St.rg ?_
  refine St.ev _ (Ev.move (Opd.mk rfl)) rfl ?_
  refine St.ev _ (Ev.lensl (Opd.mk rfl) Try.underlying22) rfl ?_
  refine St.ev _ (Ev.gtr (Opd.mk rfl) (Opd.mk rfl)) rfl ?_
  refine St.ev _ (Ev.move (Opd.mk rfl)) rfl ?_
  refine St.gt _ rfl rfl (fun hg => Ev.move (Opd.mk rfl)) rfl ?_
  refine St.gt _ rfl rfl (fun hg => Ev.lensl (Opd.gv rfl hg) Try.underlying22) rfl ?_
  refine St.gt _ rfl rfl (fun hg => Ev.leq (Opd.gv rfl hg) (Opd.mk rfl)) rfl ?_
  refine St.ev _ (Ev.and (Opd.mk rfl) (fun hp => Opd.gv rfl hp)) rfl ?_
  refine St.nil ?_
  refine St.then_normal ?_
  refine St.cond _ rfl (fun h18 => ?_) (fun h18 => ?_)
  · skip
    try simp only [Bool.and_true, Bool.true_and, decide_eq_true_eq, decide_eq_false_iff_not, Bool.and_eq_true, Bool.or_eq_true, Bool.and_eq_false_iff, Bool.or_eq_false_iff, Bool.not_eq_true', Bool.not_eq_false', beq_iff_eq, beq_eq_false_iff_ne, Int.not_lt, Int.not_le] at h18
    refine St.seq ?_
    refine St.rg ?_
    refine St.ev _ (Ev.assign (Opd.mk rfl)) rfl ?_
    refine St.nil ?_
    refine St.then_normal ?_
    refine St.rett ?_
    refine St.then_ret ?_
    refine St.rets [_] [] Try.results6 ⟨rfl, trivial⟩ ?_ (fun _ hw => hw.sub)
    exact be rfl
  · skip
    try simp only [Bool.and_true, Bool.true_and, decide_eq_true_eq, decide_eq_false_iff_not, Bool.and_eq_true, Bool.or_eq_true, Bool.and_eq_false_iff, Bool.or_eq_false_iff, Bool.not_eq_true', Bool.not_eq_false', beq_iff_eq, beq_eq_false_iff_ne, Int.not_lt, Int.not_le] at h18
    refine St.skip ?_
    refine St.then_normal ?_
    refine St.seq ?_
    refine St.rg ?_
    refine St.ev _ (Ev.move (Opd.mk rfl)) rfl ?_
    refine St.ev _ (Ev.move (Opd.mk rfl)) rfl ?_
    refine St.calld (Common_spec v0 v1 p ord) cb19 (Opds.cons (Opd.mk rfl) (Opds.cons (Opd.mk rfl) Opds.nil)) rfl ?_
    rintro v22 _ ⟨u0, rfl, h1, rfl⟩
    refine St.app1 ?_
    refine St.publish u0 intR (ints (comL p ord)) rfl (ints_length _).symm comL_wf ?_
    refine St.ev _ (Ev.move (Opd.mk rfl)) rfl ?_
    refine St.ev _ (Ev.extract (Opd.mk rfl) rfl) rfl ?_
    refine St.ev _ (Ev.extract (Opd.mk rfl) rfl) rfl ?_
    refine St.alloc zc25 rfl (fun b6 => ?_)
    refine St.ev _ (Ev.assign (Opd.mk rfl)) rfl ?_
    refine St.storeA (Opd.mk rfl) (Opd.mk rfl) sz25 (by first | simp only [List.length_cons, List.length_nil] | rfl) rfl ?_
    refine St.nil ?_
    refine St.then_normal ?_
    refine St.seq ?_
    refine St.rg ?_
    refine St.ev _ (Ev.move (Opd.mk rfl)) rfl ?_
    refine St.ev _ (Ev.call (SuffixFault_spec v0 p) cb13 (Opds.cons (Opd.mk rfl) Opds.nil)) rfl ?_
    refine St.alloc zc25 rfl (fun b7 => ?_)
    refine St.storeA (Opd.mk rfl) (Opd.mk rfl) sz25 (by first | simp only [List.length_cons, List.length_nil] | rfl) rfl ?_
    refine St.nil ?_
    refine St.then_normal ?_
    refine St.seq ?_
    refine St.seq ?_
    refine St.rg ?_
    refine St.ev _ (Ev.fldb0 (Opd.mk rfl) fo25_0) rfl ?_
    refine St.ev _ (Ev.ldb (Opd.mk rfl) Try.underlying3 trivial (by rfl)) rfl ?_
    refine St.ev _ (Ev.eql (Opd.mk rfl) (Opd.mk rfl)) rfl ?_
    refine St.ev _ (Ev.move (Opd.mk rfl)) rfl ?_
    refine St.split 30 _ rfl (fun hs => ?_) (fun hs => ?_)
    · skip
      have hz : (sFault p).1 = 0 := by simpa using hs
      have hok := sFault_ok hz
      refine St.takeg rfl rfl ?_
      refine St.ev _ (Ev.move (Opd.mk rfl)) rfl ?_
      refine St.takeg rfl rfl ?_
      refine St.ev _ (Ev.move (Opd.mk rfl)) rfl ?_
      refine St.takeg rfl rfl ?_
      refine St.calld (Order_spec v0 p hok.1) cb16 (Opds.cons (Opd.mk rfl) Opds.nil) rfl ?_
      rintro v33 _ ⟨h2, rfl⟩
      refine St.app1 ?_
      refine St.publish v33 intR (ints (sufOf p)) rfl (ints_length _).symm (suf_wf (by omega)) ?_
      refine St.takeg rfl rfl ?_
      refine St.ev _ (Ev.call (sameInts_spec v1 v33 ord (ints (sufOf p))) cb15 (Opds.cons (Opd.mk rfl) (Opds.cons (Opd.mk rfl) Opds.nil))) rfl ?_
      refine St.takeg rfl rfl ?_
      refine St.ev _ (Ev.not (Opd.mk rfl)) rfl ?_
      refine St.ev _ (Ev.pickt (Opd.mk rfl) rfl (Opd.mk rfl)) rfl ?_
      refine St.nil ?_
      refine St.then_normal ?_
      refine St.cond _ rfl (fun h36 => ?_) (fun h36 => ?_)
      · skip
        try simp only [Bool.and_true, Bool.true_and, decide_eq_true_eq, decide_eq_false_iff_not, Bool.and_eq_true, Bool.or_eq_true, Bool.and_eq_false_iff, Bool.or_eq_false_iff, Bool.not_eq_true', Bool.not_eq_false', beq_iff_eq, beq_eq_false_iff_ne, Int.not_lt, Int.not_le] at h36
        rw [bothF_2 hz h36, comL_f (by rw [bothF_2 hz h36]; decide)]
        refine St.rg ?_
        refine St.ev _ (Ev.build (ps := [(0, (Operand.const (Value.int IntKind.i64 5))), (1, (Operand.const (Value.int IntKind.i64 (-2))))]) (Opds.cons (Opd.mk rfl) (Opds.cons (Opd.mk rfl) Opds.nil)) (fun w => bld25_0_1 rfl rfl w)) rfl ?_
        refine St.storeA (Opd.mk rfl) (Opd.mk rfl) sz25 (by first | simp only [List.length_cons, List.length_nil] | rfl) rfl ?_
        refine St.nil ?_
        refine St.then_normal ?_
        refine St.seq ?_
        refine St.seq ?_
        refine St.rg ?_
        refine St.ev _ (Ev.fldb0 (Opd.mk rfl) fo25_0) rfl ?_
        refine St.ev _ (Ev.ldb (Opd.mk rfl) Try.underlying3 trivial (by rfl)) rfl ?_
        refine St.ev _ (Ev.neq (Opd.mk rfl) (Opd.mk rfl)) rfl ?_
        refine St.nil ?_
        refine St.then_normal ?_
        refine St.condt _ rfl rfl ?_
        refine St.seq ?_
        refine St.rg ?_
        refine St.ev _ (Ev.ldbA (Opd.mk rfl) Try.underlying25 trivial (by exact sz25)) rfl ?_
        refine St.ev _ (Ev.ldbA (Opd.mk rfl) Try.underlying25 trivial (by exact sz25)) rfl ?_
        refine St.ev _ (Ev.structeql (Opd.mk rfl) (Opd.mk rfl) Try.eqGuardType25 (fun w => eqf25 _ _ _ _ w)) rfl ?_
        refine St.ev _ (Ev.move (Opd.mk rfl)) rfl ?_
        refine St.gt _ rfl rfl (fun hg => Ev.move (Opd.mk rfl)) rfl ?_
        refine St.gt _ rfl rfl (fun hg => Ev.lensl (Opd.gv rfl hg) Try.underlying22) rfl ?_
        refine St.gt _ rfl rfl (fun hg => Ev.eql (Opd.gv rfl hg) (Opd.mk rfl)) rfl ?_
        refine St.ev _ (Ev.and (Opd.mk rfl) (fun hp => Opd.gv rfl hp)) rfl ?_
        refine St.ev _ (Ev.assign (Opd.mk rfl)) rfl ?_
        refine St.nil ?_
        refine St.then_normal ?_
        refine St.rett ?_
        refine St.then_ret ?_
        refine St.rets [_] [] Try.results6 ⟨rfl, trivial⟩ ?_ (fun _ hw => hw.sub)
        exact be (by simp)
      · skip
        try simp only [Bool.and_true, Bool.true_and, decide_eq_true_eq, decide_eq_false_iff_not, Bool.and_eq_true, Bool.or_eq_true, Bool.and_eq_false_iff, Bool.or_eq_false_iff, Bool.not_eq_true', Bool.not_eq_false', beq_iff_eq, beq_eq_false_iff_ne, Int.not_lt, Int.not_le] at h36
        have hb := bothF_3 hz h36
        rw [hb, comL_t (by rw [hb]), hok.2]
        have hnl := nears_len (p := p) (sufOf p)
        have hni := ints_length (nears p (sufOf p))
        have hln := suf_len p
        have hli := ints_length (sufOf p)
        subst h36
        refine St.skip ?_
        refine St.then_normal ?_
        refine St.seq ?_
        refine St.seq ?_
        refine St.rg ?_
        refine St.ev _ (Ev.fldb0 (Opd.mk rfl) fo25_0) rfl ?_
        refine St.ev _ (Ev.ldb (Opd.mk rfl) Try.underlying3 trivial (by rfl)) rfl ?_
        refine St.ev _ (Ev.neq (Opd.mk rfl) (Opd.mk rfl)) rfl ?_
        refine St.nil ?_
        refine St.then_normal ?_
        refine St.condf _ rfl rfl ?_
        refine St.skip ?_
        refine St.then_normal ?_
        refine St.seq ?_
        refine St.seq ?_
        refine St.rg ?_
        refine St.ev _ (Ev.fldb0 (Opd.mk rfl) fo25_0) rfl ?_
        refine St.ev _ (Ev.ldb (Opd.mk rfl) Try.underlying3 trivial (by rfl)) rfl ?_
        refine St.ev _ (Ev.neq (Opd.mk rfl) (Opd.mk rfl)) rfl ?_
        refine St.ev _ (Ev.move (Opd.mk rfl)) rfl ?_
        refine St.gf _ rfl rfl (fun hg => Ev.move (Opd.mk rfl)) rfl ?_
        refine St.gf _ rfl rfl (fun hg => Ev.lensl (Opd.gv rfl hg) Try.underlying22) rfl ?_
        refine St.gf _ rfl rfl (fun hg => Ev.move (Opd.mk rfl)) rfl ?_
        refine St.gf _ rfl rfl (fun hg => Ev.lensl (Opd.gv rfl hg) Try.underlying22) rfl ?_
        refine St.gf _ rfl rfl (fun hg => Ev.neq (Opd.gv rfl hg) (Opd.gv rfl hg)) rfl ?_
        refine St.ev _ (Ev.or (Opd.mk rfl) (fun hp => Opd.gv rfl hp)) rfl ?_
        refine St.nil ?_
        refine St.then_normal ?_
        refine St.condf _ rfl (by rw [hni, hnl]; simp) ?_
        refine St.skip ?_
        refine St.then_normal ?_
        refine St.seq ?_
        refine St.seq ?_
        refine St.rg ?_
        refine St.ev _ (Ev.assign (Opd.mk rfl)) rfl ?_
        refine St.nil ?_
        refine St.then_normal ?_
        refine St.block ?_
        refine St.loopS (ι := Nat) (fun j T => (8, iv j) :: T) (fun j => j ≤ p.length) (fun j => p.length - j) 0 (Keep.cons 0 rfl (Keep.cons 1 rfl (Keep.cons 5 rfl Keep.nil))) (Nat.zero_le _) (by repeat (first | exact Sub.nil | refine Sub.cons (by first | rfl | exact congrArg (fun z => some (iv z)) (by first | omega | (dsimp only; omega)) | exact congrArg (fun z => some (Value.bool z)) (by first | assumption | exact Eq.symm (by assumption))) ?_)) ?_
        intro j hphi
        refine St.seq ?_
        refine St.seq ?_
        refine St.rg ?_
        refine St.ev _ (Ev.move (Opd.mk rfl)) rfl ?_
        refine St.ev _ (Ev.move (Opd.mk rfl)) rfl ?_
        refine St.ev _ (Ev.lensl (Opd.mk rfl) Try.underlying22) rfl ?_
        refine St.ev _ (Ev.lss (Opd.mk rfl) (Opd.mk rfl)) rfl ?_
        refine St.nil ?_
        refine St.then_normal ?_
        refine St.cond _ rfl (fun h62 => ?_) (fun h62 => ?_)
        · skip
          try simp only [Bool.and_true, Bool.true_and, decide_eq_true_eq, decide_eq_false_iff_not, Bool.and_eq_true, Bool.or_eq_true, Bool.and_eq_false_iff, Bool.or_eq_false_iff, Bool.not_eq_true', Bool.not_eq_false', beq_iff_eq, beq_eq_false_iff_ne, Int.not_lt, Int.not_le] at h62
          have e0 : (ints (nears p (sufOf p)))[j]? = some ((near p (sufOf p) j : Nat) : Int) := by rw [some_getD 0 (show j < (ints (nears p (sufOf p))).length by omega), ints_getD, nears_at (by omega)]
          have e1 : (ints (sufOf p))[j - 1]? = some (((sufOf p).getD (j - 1) 0 : Nat) : Int) := by rw [some_getD 0 (show j - 1 < (ints (sufOf p)).length by omega), ints_getD]
          have e2 : (ints (sufOf p))[j]? = some (((sufOf p).getD j 0 : Nat) : Int) := by rw [some_getD 0 (show j < (ints (sufOf p)).length by omega), ints_getD]
          have b1 := perm_lt (sufOf_is p).1 (show j - 1 < p.length by omega)
          have b2 := perm_lt (sufOf_is p).1 (show j < p.length by omega)
          have hnj : near p (sufOf p) j = if j = 0 then 0 else lcp p ((sufOf p).getD (j - 1) 0) ((sufOf p).getD j 0) := rfl
          refine St.skip ?_
          refine St.then_normal ?_
          refine St.seq ?_
          refine St.block ?_
          refine St.seq ?_
          refine St.rq mixed (by kernel_rfl) (Mm.drawn _ _) ?_
          refine Sq.ev _ (Ev.move (Opd.mk rfl)) rfl ?_
          refine Sq.ev _ (Ev.eql (Opd.mk rfl) (Opd.mk rfl)) rfl ?_
          refine Sq.ev _ (Ev.move (Opd.mk rfl)) rfl ?_
          refine Sq.gt _ rfl rfl (fun hg => Ev.move (Opd.mk rfl)) rfl ?_
          refine Sq.gt _ rfl rfl (fun hg => Ev.move (Opd.mk rfl)) rfl ?_
          refine Sq.gt _ rfl rfl (fun hg => Ev.idxaddr (k := j) (Opd.gv rfl hg) (Opd.gv rfl hg) Try.underlying22 sz3 (by first | omega | (simp only [Bool.and_true, Bool.true_and, decide_eq_true_eq, decide_eq_false_iff_not, Bool.and_eq_true, Bool.or_eq_true, Bool.and_eq_false_iff, Bool.or_eq_false_iff, Bool.not_eq_true', Bool.not_eq_false', beq_iff_eq, beq_eq_false_iff_ne, Int.not_lt, Int.not_le] at hg; omega)) (by first | omega | (simp only [Bool.and_true, Bool.true_and, decide_eq_true_eq, decide_eq_false_iff_not, Bool.and_eq_true, Bool.or_eq_true, Bool.and_eq_false_iff, Bool.or_eq_false_iff, Bool.not_eq_true', Bool.not_eq_false', beq_iff_eq, beq_eq_false_iff_ne, Int.not_lt, Int.not_le] at hg; omega))) rfl ?_
          refine Sq.gt _ rfl rfl (fun hg => Ev.ld1 (Opd.gv rfl hg) e0 Try.underlying3 trivial rfl) rfl ?_
          refine Sq.gt _ rfl rfl (fun hg => Ev.neq (Opd.gv rfl hg) (Opd.mk rfl)) rfl ?_
          refine Sq.ev _ (Ev.and (Opd.mk rfl) (fun hp => Opd.gv rfl hp)) rfl ?_
          refine Sq.ev _ (Ev.move (Opd.mk rfl)) rfl ?_
          refine Sq.gf _ rfl rfl (fun hg => Ev.move (Opd.mk rfl)) rfl ?_
          refine Sq.gf _ rfl rfl (fun hg => Ev.gtr (Opd.gv rfl hg) (Opd.mk rfl)) rfl ?_
          refine Sq.gf _ rfl rfl (fun hg => Ev.move (Opd.gv rfl hg)) rfl ?_
          refine Sq.gct _ rfl rfl (fun hg => Ev.move (Opd.mk rfl)) rfl ?_
          refine Sq.gct _ rfl rfl (fun hg => Ev.move (Opd.mk rfl)) rfl ?_
          refine Sq.gct _ rfl rfl (fun hg => Ev.idxaddr (k := j) (Opd.gv rfl hg) (Opd.gv rfl hg) Try.underlying22 sz3 (by first | omega | (simp only [Bool.and_true, Bool.true_and, decide_eq_true_eq, decide_eq_false_iff_not, Bool.and_eq_true, Bool.or_eq_true, Bool.and_eq_false_iff, Bool.or_eq_false_iff, Bool.not_eq_true', Bool.not_eq_false', beq_iff_eq, beq_eq_false_iff_ne, Int.not_lt, Int.not_le] at hg; omega)) (by first | omega | (simp only [Bool.and_true, Bool.true_and, decide_eq_true_eq, decide_eq_false_iff_not, Bool.and_eq_true, Bool.or_eq_true, Bool.and_eq_false_iff, Bool.or_eq_false_iff, Bool.not_eq_true', Bool.not_eq_false', beq_iff_eq, beq_eq_false_iff_ne, Int.not_lt, Int.not_le] at hg; omega))) rfl ?_
          refine Sq.gct _ rfl rfl (fun hg => Ev.ld1 (Opd.gv rfl hg) e0 Try.underlying3 trivial rfl) rfl ?_
          refine Sq.gct _ rfl rfl (fun hg => Ev.move (Opd.mk rfl)) rfl ?_
          refine Sq.gct _ rfl rfl (fun hg => Ev.move (Opd.mk rfl)) rfl ?_
          refine Sq.gct _ rfl rfl (fun hg => Ev.move (Opd.mk rfl)) rfl ?_
          refine Sq.gct _ rfl rfl (fun hg => Ev.sub (Opd.gv rfl hg) (Opd.mk rfl) (by first | omega | (simp only [Bool.and_true, Bool.true_and, decide_eq_true_eq, decide_eq_false_iff_not, Bool.and_eq_true, Bool.or_eq_true, Bool.and_eq_false_iff, Bool.or_eq_false_iff, Bool.not_eq_true', Bool.not_eq_false', beq_iff_eq, beq_eq_false_iff_ne, Int.not_lt, Int.not_le] at hg; omega))) rfl ?_
          refine Sq.gct _ rfl rfl (fun hg => Ev.idxaddr (k := (j - 1)) (Opd.gv rfl hg) (Opd.gv rfl hg) Try.underlying22 sz3 (by first | omega | (simp only [Bool.and_true, Bool.true_and, decide_eq_true_eq, decide_eq_false_iff_not, Bool.and_eq_true, Bool.or_eq_true, Bool.and_eq_false_iff, Bool.or_eq_false_iff, Bool.not_eq_true', Bool.not_eq_false', beq_iff_eq, beq_eq_false_iff_ne, Int.not_lt, Int.not_le] at hg; omega)) (by first | omega | (simp only [Bool.and_true, Bool.true_and, decide_eq_true_eq, decide_eq_false_iff_not, Bool.and_eq_true, Bool.or_eq_true, Bool.and_eq_false_iff, Bool.or_eq_false_iff, Bool.not_eq_true', Bool.not_eq_false', beq_iff_eq, beq_eq_false_iff_ne, Int.not_lt, Int.not_le] at hg; omega))) rfl ?_
          refine Sq.gct _ rfl rfl (fun hg => Ev.ld1 (Opd.gv rfl hg) e1 Try.underlying3 trivial rfl) rfl ?_
          refine Sq.gct _ rfl rfl (fun hg => Ev.move (Opd.mk rfl)) rfl ?_
          refine Sq.gct _ rfl rfl (fun hg => Ev.move (Opd.mk rfl)) rfl ?_
          refine Sq.gct _ rfl rfl (fun hg => Ev.idxaddr (k := j) (Opd.gv rfl hg) (Opd.gv rfl hg) Try.underlying22 sz3 (by first | omega | (simp only [Bool.and_true, Bool.true_and, decide_eq_true_eq, decide_eq_false_iff_not, Bool.and_eq_true, Bool.or_eq_true, Bool.and_eq_false_iff, Bool.or_eq_false_iff, Bool.not_eq_true', Bool.not_eq_false', beq_iff_eq, beq_eq_false_iff_ne, Int.not_lt, Int.not_le] at hg; omega)) (by first | omega | (simp only [Bool.and_true, Bool.true_and, decide_eq_true_eq, decide_eq_false_iff_not, Bool.and_eq_true, Bool.or_eq_true, Bool.and_eq_false_iff, Bool.or_eq_false_iff, Bool.not_eq_true', Bool.not_eq_false', beq_iff_eq, beq_eq_false_iff_ne, Int.not_lt, Int.not_le] at hg; omega))) rfl ?_
          refine Sq.gct _ rfl rfl (fun hg => Ev.ld1 (Opd.gv rfl hg) e2 Try.underlying3 trivial rfl) rfl ?_
          refine Sq.gct _ rfl rfl (fun hg => Ev.call (Shared_spec v0 p hok.1 ((sufOf p).getD (j - 1) 0) ((sufOf p).getD j 0) (by omega) (by omega)) cb20 (Opds.cons (Opd.gv rfl hg) (Opds.cons (Opd.gv rfl hg) (Opds.cons (Opd.gv rfl hg) Opds.nil)))) rfl ?_
          refine Sq.gct _ rfl rfl (fun hg => Ev.neq (Opd.gv rfl hg) (Opd.gv rfl hg)) rfl ?_
          refine Sq.gf _ rfl rfl (fun hg => Ev.and (Opd.gv rfl hg) (fun hp => Opd.gv rfl (and_i hg hp))) rfl ?_
          refine Sq.ev _ (Ev.or (Opd.mk rfl) (fun hp => Opd.gv rfl hp)) rfl ?_
          refine Sq.nil ?_
          refine St.then_normal ?_
          refine St.condf _ rfl (by rw [hnj]; by_cases hj0 : j = 0 <;> simp [hj0]) ?_
          refine St.skip ?_
          refine St.in_normal ?_
          refine St.then_normal ?_
          refine St.rg ?_
          refine St.ev _ (Ev.move (Opd.mk rfl)) rfl ?_
          refine St.ev _ (Ev.add (Opd.mk rfl) (Opd.mk rfl) (by omega)) rfl ?_
          refine St.ev _ (Ev.assign (Opd.mk rfl)) rfl ?_
          refine St.nil ?_
          refine St.then_normal ?_
          refine St.againS (j + 1) (by omega) (by first | omega | (dsimp only; omega)) (by repeat (first | exact Sub.nil | refine Sub.cons (by first | rfl | exact congrArg (fun z => some (iv z)) (by first | omega | (dsimp only; omega)) | exact congrArg (fun z => some (Value.bool z)) (by first | assumption | exact Eq.symm (by assumption))) ?_)) (fun _ hw => hw.sub)
        · skip
          try simp only [Bool.and_true, Bool.true_and, decide_eq_true_eq, decide_eq_false_iff_not, Bool.and_eq_true, Bool.or_eq_true, Bool.and_eq_false_iff, Bool.or_eq_false_iff, Bool.not_eq_true', Bool.not_eq_false', beq_iff_eq, beq_eq_false_iff_ne, Int.not_lt, Int.not_le] at h62
          refine St.exit ?_
          refine St.then_exit ?_
          refine St.then_exit ?_
          refine St.in_hit ?_
          refine St.then_normal ?_
          refine St.seq ?_
          refine St.rg ?_
          refine St.ev _ (Ev.assign (Opd.mk rfl)) rfl ?_
          refine St.nil ?_
          refine St.then_normal ?_
          refine St.rett ?_
          refine St.rets [_] [] Try.results6 ⟨rfl, trivial⟩ ?_ (fun _ hw => hw.sub)
          exact be rfl
    · skip
      have hz : (sFault p).1 ≠ 0 := by simpa using hs
      rw [bothF_1 hz, comL_f (by rw [bothF_1 hz]; exact hz)]
      refine St.skipg rfl rfl rfl ?_
      refine St.skipg rfl rfl rfl ?_
      refine St.skipg rfl rfl rfl ?_
      refine St.skipg rfl rfl rfl ?_
      refine St.skipg rfl rfl rfl ?_
      refine St.ev _ (Ev.pickf (Opd.mk rfl) rfl (Opd.mk rfl)) rfl ?_
      refine St.nil ?_
      refine St.then_normal ?_
      refine St.condf _ rfl rfl ?_
      refine St.skip ?_
      refine St.then_normal ?_
      refine St.seq ?_
      refine St.seq ?_
      refine St.rg ?_
      refine St.ev _ (Ev.fldb0 (Opd.mk rfl) fo25_0) rfl ?_
      refine St.ev _ (Ev.ldb (Opd.mk rfl) Try.underlying3 trivial (by rfl)) rfl ?_
      refine St.ev _ (Ev.neq (Opd.mk rfl) (Opd.mk rfl)) rfl ?_
      refine St.nil ?_
      refine St.then_normal ?_
      refine St.condt _ rfl (by simpa using hz) ?_
      refine St.seq ?_
      refine St.rg ?_
      refine St.ev _ (Ev.ldbA (Opd.mk rfl) Try.underlying25 trivial (by exact sz25)) rfl ?_
      refine St.ev _ (Ev.ldbA (Opd.mk rfl) Try.underlying25 trivial (by exact sz25)) rfl ?_
      refine St.ev _ (Ev.structeql (Opd.mk rfl) (Opd.mk rfl) Try.eqGuardType25 (fun w => eqf25 _ _ _ _ w)) rfl ?_
      refine St.ev _ (Ev.move (Opd.mk rfl)) rfl ?_
      refine St.gt _ rfl rfl (fun hg => Ev.move (Opd.mk rfl)) rfl ?_
      refine St.gt _ rfl rfl (fun hg => Ev.lensl (Opd.gv rfl hg) Try.underlying22) rfl ?_
      refine St.gt _ rfl rfl (fun hg => Ev.eql (Opd.gv rfl hg) (Opd.mk rfl)) rfl ?_
      refine St.ev _ (Ev.and (Opd.mk rfl) (fun hp => Opd.gv rfl hp)) rfl ?_
      refine St.ev _ (Ev.assign (Opd.mk rfl)) rfl ?_
      refine St.nil ?_
      refine St.then_normal ?_
      refine St.rett ?_
      refine St.then_ret ?_
      refine St.rets [_] [] Try.results6 ⟨rfl, trivial⟩ ?_ (fun _ hw => hw.sub)
      exact be (by simp)

end Go.Proofs.Ytblmnncmkibhnaa
