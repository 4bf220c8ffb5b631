/-
  The walks of the longest parts that occur so often, and the laws of Longest.
  Conditions: none.
-/
import Derived.Test.YtblmnncmkibhnaaW11
import Derived.Test.YtblmnncmkibhnaaSufN
set_option linter.unusedSimpArgs false
set_option linter.unusedVariables false
namespace Go.Proofs.Ytblmnncmkibhnaa
open Go Go.J

def lgF (p : List Int) (t : Int) : Int × Int := if (sFault p).1 ≠ 0 then sFault p else if t < 1 then (3, -2) else (0, 0)
noncomputable def lgV (p : List Int) (t : Int) : List Int := if (lgF p t).1 = 0 then lgOf p t.toNat else []
theorem lgF_1 {p : List Int} {t : Int} (h : (sFault p).1 ≠ 0) : lgF p t = sFault p := by unfold lgF; rw [if_pos h]
theorem lgF_2 {p : List Int} {t : Int} (h : (sFault p).1 = 0) (h2 : t < 1) : lgF p t = (3, -2) := by unfold lgF; rw [if_neg (by omega), if_pos h2]
theorem lgF_3 {p : List Int} {t : Int} (h : (sFault p).1 = 0) (h2 : ¬ t < 1) : lgF p t = (0, 0) := by unfold lgF; rw [if_neg (by omega), if_neg h2]
theorem lgF_ok {p : List Int} {t : Int} (h : (lgF p t).1 = 0) : (sFault p).1 = 0 ∧ 1 ≤ t := by
  by_cases h1 : (sFault p).1 = 0
  · refine ⟨h1, ?_⟩
    apply Decidable.byContradiction
    intro h2
    rw [lgF_2 h1 (by omega)] at h; cases h
  · rw [lgF_1 h1] at h; exact absurd h h1
theorem lgV_t {p : List Int} {t : Int} (h : (lgF p t).1 = 0) : lgV p t = lgOf p t.toNat := by unfold lgV; rw [if_pos h]
theorem lgV_f {p : List Int} {t : Int} (h : (lgF p t).1 ≠ 0) : lgV p t = [] := by unfold lgV; rw [if_neg h]
theorem lgst_sub {p : List Int} {t : Nat} {u : List Int} (h : Lgst p t u) (ht : 1 ≤ t) : ∀ x ∈ u, x ∈ p := by
  rcases h with ⟨rfl, _⟩ | ⟨h1, h2, _⟩
  · intro x hx; cases hx
  · obtain ⟨i, _, he⟩ := occ_ex (p := p) (v := u) (by omega) h1
    intro x hx
    rw [← he] at hx
    exact List.mem_of_mem_drop (List.mem_of_mem_take hx)
theorem lgst_ex {p : List Int} {t : Nat} (hn : p.length ≤ 2000) (ht : 1 ≤ t) : Lgst p t (lgOf p t) := by
  have key : ∀ m, ∃ b, LgI p (sufOf p) t m b := by
    intro m
    induction m with
    | zero => exact ⟨[], LgI.zero⟩
    | succ m ih =>
      obtain ⟨b, hb⟩ := ih
      by_cases h1 : m + 1 < t
      · exact ⟨b, hb.skip h1⟩
      · by_cases h2 : b.length < wn p (sufOf p) t m
        · exact ⟨_, hb.more (by omega) h2⟩
        · exact ⟨b, hb.stay (by omega) (by omega)⟩
  obtain ⟨b, hb⟩ := key p.length
  have := hb.done (sufOf_is p) ht
  rw [← lgOf_eq this]; exact this
theorem lgV_wf {p : List Int} {t : Int} (h : ∀ x ∈ p, intR.wf x) : ∀ x ∈ lgV p t, intR.wf x := by
  by_cases h1 : (lgF p t).1 = 0
  · have h2 := lgF_ok h1
    rw [lgV_t h1]
    intro x hx
    exact h x (lgst_sub (lgst_ex (sFault_ok h2.1).1 (show 1 ≤ t.toNat by omega)) (by omega) x hx)
  · rw [lgV_f h1]; intro x hx; cases hx
theorem lgV_len {p : List Int} {t : Int} : (lgV p t).length ≤ p.length := by
  by_cases h1 : (lgF p t).1 = 0
  · have h2 := lgF_ok h1
    rw [lgV_t h1]
    exact (lgst_ex (sFault_ok h2.1).1 (show 1 ≤ t.toNat by omega)).le (by omega)
  · rw [lgV_f h1]; exact Nat.zero_le _
theorem llt_step {a b : List Int} {k : Nat} (ha : k < a.length) (hb : k < b.length) : llt (a.drop k) (b.drop k) = if a.getD k 0 = b.getD k 0 then llt (a.drop (k + 1)) (b.drop (k + 1)) else decide (a.getD k 0 < b.getD k 0) := by
  rw [drop_of_some (some_getD 0 ha), drop_of_some (some_getD 0 hb), llt]
  by_cases h : a.getD k 0 = b.getD k 0
  · rw [if_pos h, h]; simp
  · rw [if_neg h, decide_eq_false h]; simp

theorem Longest_spec (v0 : Value) (p : List Int) (t : Int) : FnH Try.prog 23 #[v0, iv t] ([sl intR v0 p].map dat) (fun u H' => ∃ u0 : Value, u = .tuple #[u0, fv (lgF p t)] ∧ u0.oneCell' = true ∧ H' = [row u0 3 1 (lgV p t).length (rows intR (lgV p t))]) := by
  refine FnH.body (args := [v0, iv t]) 80 Try.func23 rfl Try.ntmps23 rfl (fun c => ?_)
  refine St.seq ?_
  refine St.cast (H' := [dat (sl intR v0 p)]) rfl ?_
  refine St.rg ?_
  refine St.ev _ (Ev.assign (Opd.mk rfl)) rfl ?_
  refine St.alloc zc25 rfl (fun b5 => ?_)
  refine St.nil ?_
  refine St.then_normal ?_
  refine St.seq ?_
  refine St.seq ?_
  refine St.rg ?_
  refine St.ev _ (Ev.move (Opd.mk rfl)) rfl ?_
  refine St.ev _ (Ev.call (check_spec v0 p) cb25 (Opds.cons (Opd.mk rfl) Opds.nil)) rfl ?_
  refine St.alloc zc25 rfl (fun b6 => ?_)
  refine St.storeA (Opd.mk rfl) (Opd.mk rfl) sz25 (by first | simp only [List.length_cons, List.length_nil] | rfl) rfl ?_
  refine St.nil ?_
  refine St.then_normal ?_
  refine St.seq ?_
  refine St.rg ?_
  refine St.ev _ (Ev.fldb0 (Opd.mk rfl) fo25_0) rfl ?_
  refine St.ev _ (Ev.ldb (Opd.mk rfl) Try.underlying3 trivial (by rfl)) rfl ?_
  refine St.ev _ (Ev.neq (Opd.mk rfl) (Opd.mk rfl)) rfl ?_
  refine St.nil ?_
  refine St.then_normal ?_
  refine St.cond _ rfl (fun h19 => ?_) (fun h19 => ?_)
  · skip
    try simp only [Bool.and_true, Bool.true_and, decide_eq_true_eq, decide_eq_false_iff_not, Bool.and_eq_true, Bool.or_eq_true, Bool.and_eq_false_iff, Bool.or_eq_false_iff, Bool.not_eq_true', Bool.not_eq_false', beq_iff_eq, beq_eq_false_iff_ne, Int.not_lt, Int.not_le] at h19
    refine St.seq ?_
    refine St.par [b5] mixed ?_
    refine SW.defer 0 (by repeat (first | refine NP.then ?_ | refine NP.inBlock ?_ | exact NP.body)) (by kernel_rfl) rfl (fun R => Ev.ldbA (Opd.mk rfl) Try.underlying25 trivial (by exact sz25)) (by kernel_rfl) rfl ?_
    refine SW.defer 1 (by repeat (first | refine NP.then ?_ | refine NP.inBlock ?_ | exact NP.body)) (by kernel_rfl) rfl (fun R => Ev.assign (Opd.mk rfl)) (by kernel_rfl) rfl ?_
    refine SW.turn1 (i := 2) (by kernel_rfl) rfl ?_
    refine St.storeA (Opd.mk rfl) (Opd.mk rfl) sz25 (by first | simp only [List.length_cons, List.length_nil] | rfl) rfl ?_
    refine St.nil ?_
    refine St.then_normal ?_
    refine SW.go ?_
    refine SW.done (by kernel_rfl) ?_
    refine St.then_normal ?_
    refine St.rett ?_
    refine St.then_ret ?_
    refine St.nilrow 3 1 ?_
    refine St.rets [_, _] [row (.slice none 0 0) 3 1 0 []] Try.results23 ⟨rfl, ⟨⟨_, _, _, _, rfl, InB.mem, .inl ⟨⟨_, Try.underlying25⟩, sz25, rfl⟩⟩, trivial⟩⟩ ?_ (fun _ hw => hw.sub)
    rw [lgV_f (by rw [lgF_1 h19]; exact h19), lgF_1 h19]; exact ⟨_, rfl, rfl, rfl⟩
  · skip
    try simp only [Bool.and_true, Bool.true_and, decide_eq_true_eq, decide_eq_false_iff_not, Bool.and_eq_true, Bool.or_eq_true, Bool.and_eq_false_iff, Bool.or_eq_false_iff, Bool.not_eq_true', Bool.not_eq_false', beq_iff_eq, beq_eq_false_iff_ne, Int.not_lt, Int.not_le] at h19
    have hz : (sFault p).1 = 0 := by omega
    have hok := sFault_ok hz
    refine St.skip ?_
    refine St.then_normal ?_
    refine St.seq ?_
    refine St.seq ?_
    refine St.rg ?_
    refine St.ev _ (Ev.move (Opd.mk rfl)) rfl ?_
    refine St.ev _ (Ev.lss (Opd.mk rfl) (Opd.mk rfl)) rfl ?_
    refine St.nil ?_
    refine St.then_normal ?_
    refine St.cond _ rfl (fun h22 => ?_) (fun h22 => ?_)
    · skip
      try simp only [Bool.and_true, Bool.true_and, decide_eq_true_eq, decide_eq_false_iff_not, Bool.and_eq_true, Bool.or_eq_true, Bool.and_eq_false_iff, Bool.or_eq_false_iff, Bool.not_eq_true', Bool.not_eq_false', beq_iff_eq, beq_eq_false_iff_ne, Int.not_lt, Int.not_le] at h22
      refine St.seq ?_
      refine St.rg ?_
      refine St.ev _ (Ev.build (ps := [(0, (Operand.const (Value.int IntKind.i64 3))), (1, (Operand.const (Value.int IntKind.i64 (-2))))]) (Opds.cons (Opd.mk rfl) (Opds.cons (Opd.mk rfl) Opds.nil)) (fun w => bld25_0_1 rfl rfl w)) rfl ?_
      refine St.ev _ (Ev.assign (Opd.mk rfl)) rfl ?_
      refine St.storeA (Opd.mk rfl) (Opd.mk rfl) sz25 (by first | simp only [List.length_cons, List.length_nil] | rfl) rfl ?_
      refine St.nil ?_
      refine St.then_normal ?_
      refine St.rett ?_
      refine St.then_ret ?_
      refine St.nilrow 3 1 ?_
      refine St.rets [_, _] [row (.slice none 0 0) 3 1 0 []] Try.results23 ⟨rfl, ⟨⟨_, _, _, _, rfl, InB.mem, .inl ⟨⟨_, Try.underlying25⟩, sz25, rfl⟩⟩, trivial⟩⟩ ?_ (fun _ hw => hw.sub)
      rw [lgV_f (by rw [lgF_2 hz h22]; decide), lgF_2 hz h22]; exact ⟨_, rfl, rfl, rfl⟩
    · skip
      try simp only [Bool.and_true, Bool.true_and, decide_eq_true_eq, decide_eq_false_iff_not, Bool.and_eq_true, Bool.or_eq_true, Bool.and_eq_false_iff, Bool.or_eq_false_iff, Bool.not_eq_true', Bool.not_eq_false', beq_iff_eq, beq_eq_false_iff_ne, Int.not_lt, Int.not_le] at h22
      obtain ⟨tm, rfl⟩ := Int.eq_ofNat_of_zero_le (show 0 ≤ t by omega)
      have hT1 : 1 ≤ tm := by omega
      refine St.skip ?_
      refine St.then_normal ?_
      refine St.seq ?_
      refine St.rg ?_
      refine St.ev _ (Ev.move (Opd.mk rfl)) rfl ?_
      refine St.calld (build_spec v0 p hok.1) cb26 (Opds.cons (Opd.mk rfl) Opds.nil) rfl ?_
      rintro v25 _ ⟨l, hsuf, hone, rfl⟩
      refine St.app1 ?_
      have e := sufOf_eq hsuf
      have hln := suf_len p
      have hli := ints_length (sufOf p)
      have hnl := nears_len (p := p) (sufOf p)
      have hni := ints_length (nears p (sufOf p))
      refine St.publish v25 intR (ints l) rfl (by rw [ints_length, e, hln]) (by rw [e]; exact suf_wf (by omega)) ?_
      rw [e]
      refine St.ev _ (Ev.assign (Opd.mk rfl)) rfl ?_
      refine St.nil ?_
      refine St.then_normal ?_
      refine St.seq ?_
      refine St.rg ?_
      refine St.ev _ (Ev.move (Opd.mk rfl)) rfl ?_
      refine St.ev _ (Ev.move (Opd.mk rfl)) rfl ?_
      refine St.calld (common_spec v0 v25 p (sufOf p) (sufOf_is p) hok.1) cb36 (Opds.cons (Opd.mk rfl) (Opds.cons (Opd.mk rfl) Opds.nil)) rfl ?_
      rintro v28 _ ⟨h2, rfl⟩
      refine St.app1 ?_
      refine St.publish v28 intR (ints (nears p (sufOf p))) rfl (by rw [hni, hnl]) (nears_wf hok.1) ?_
      refine St.ev _ (Ev.assign (Opd.mk rfl)) rfl ?_
      refine St.nil ?_
      refine St.then_normal ?_
      refine St.seq ?_
      refine St.rg ?_
      refine St.ev _ (Ev.assign (Opd.mk rfl)) rfl ?_
      refine St.nil ?_
      refine St.then_normal ?_
      refine St.seq ?_
      refine St.seq ?_
      refine St.rg ?_
      refine St.ev _ (Ev.move (Opd.mk rfl)) rfl ?_
      refine St.ev _ (Ev.lensl (Opd.mk rfl) Try.underlying22) rfl ?_
      rw [hli, hln]
      refine St.fact (sl intR (.slice none 0 0) []) (fun _ _ _ => sl_nil _ _) ?_
      refine St.ev _ (Ev.move (Opd.mk rfl)) rfl ?_
      refine St.nil ?_
      refine St.then_normal ?_
      refine St.block ?_
      refine St.loopH2 (ι := Nat × List Int) (κ := Value) (fun x w T => (31, iv x.1) :: (9, w) :: T) (fun x w => [dat (sl intR w x.2), blk b5 (.cells #[iv 0, iv 0] 25 (0, 0)), dat (sl intR v0 p), dat (sl intR v25 (ints (sufOf p))), dat (sl intR v28 (ints (nears p (sufOf p))))]) (fun x w => x.1 ≤ p.length ∧ LgI p (sufOf p) tm x.1 x.2 ∧ x.2.length ≤ p.length) (fun x w => p.length - x.1) (0, []) (.slice none 0 0) (Keep.cons 0 rfl (Keep.cons 1 rfl (Keep.cons 4 rfl (Keep.cons 5 rfl (Keep.cons 7 rfl (Keep.cons 8 rfl (Keep.cons 30 rfl Keep.nil))))))) ⟨Nat.zero_le _, LgI.zero, Nat.zero_le _⟩ (by repeat (first | exact Sub.nil | refine Sub.cons (by first | rfl | exact congrArg (fun z => some (iv z)) (by first | omega | (dsimp only; omega)) | exact congrArg (fun z => some (Value.bool z)) (by first | assumption | exact Eq.symm (by assumption))) ?_)) (fun _ hw => hw.sub) ?_
      rintro ⟨k, b⟩ w ⟨hk, hlg, hbl⟩
      dsimp only at hk hlg hbl ⊢
      refine St.seq ?_
      refine St.rg ?_
      refine St.ev _ (Ev.lss (Opd.mk rfl) (Opd.mk rfl)) rfl ?_
      refine St.nil ?_
      refine St.then_normal ?_
      refine St.seq ?_
      refine St.cond _ rfl (fun h32 => ?_) (fun h32 => ?_)
      · skip
        try simp only [Bool.and_true, Bool.true_and, decide_eq_true_eq, decide_eq_false_iff_not, Bool.and_eq_true, Bool.or_eq_true, Bool.and_eq_false_iff, Bool.or_eq_false_iff, Bool.not_eq_true', Bool.not_eq_false', beq_iff_eq, beq_eq_false_iff_ne, Int.not_lt, Int.not_le] at h32
        refine St.skip ?_
        refine St.then_normal ?_
        refine St.seq ?_
        refine St.block ?_
        refine St.seq ?_
        refine St.rg ?_
        refine St.ev _ (Ev.move (Opd.mk rfl)) rfl ?_
        refine St.ev _ (Ev.assign (Opd.mk rfl)) rfl ?_
        refine St.nil ?_
        refine St.then_normal ?_
        refine St.seq ?_
        refine St.seq ?_
        refine St.rg ?_
        refine St.ev _ (Ev.move (Opd.mk rfl)) rfl ?_
        refine St.ev _ (Ev.add (Opd.mk rfl) (Opd.mk rfl) (by omega)) rfl ?_
        refine St.ev _ (Ev.move (Opd.mk rfl)) rfl ?_
        refine St.ev _ (Ev.lss (Opd.mk rfl) (Opd.mk rfl)) rfl ?_
        refine St.nil ?_
        refine St.then_normal ?_
        refine St.cond _ rfl (fun h37 => ?_) (fun h37 => ?_)
        · skip
          try simp only [Bool.and_true, Bool.true_and, decide_eq_true_eq, decide_eq_false_iff_not, Bool.and_eq_true, Bool.or_eq_true, Bool.and_eq_false_iff, Bool.or_eq_false_iff, Bool.not_eq_true', Bool.not_eq_false', beq_iff_eq, beq_eq_false_iff_ne, Int.not_lt, Int.not_le] at h37
          refine St.exit ?_
          refine St.then_exit ?_
          refine St.in_hit ?_
          refine St.then_normal ?_
          refine St.rg ?_
          refine St.ev _ (Ev.add (Opd.mk rfl) (Opd.mk rfl) (by omega)) rfl ?_
          refine St.ev _ (Ev.move (Opd.mk rfl)) rfl ?_
          refine St.nil ?_
          refine St.then_normal ?_
          refine St.againH2 (k + 1, b) w ⟨by show k + 1 ≤ _; omega, hlg.skip (by omega), hbl⟩ (by first | omega | (dsimp only; omega)) (by repeat (first | exact Sub.nil | refine Sub.cons (by first | rfl | exact congrArg (fun z => some (iv z)) (by first | omega | (dsimp only; omega)) | exact congrArg (fun z => some (Value.bool z)) (by first | assumption | exact Eq.symm (by assumption))) ?_)) (fun _ hw => hw.sub)
        · skip
          try simp only [Bool.and_true, Bool.true_and, decide_eq_true_eq, decide_eq_false_iff_not, Bool.and_eq_true, Bool.or_eq_true, Bool.and_eq_false_iff, Bool.or_eq_false_iff, Bool.not_eq_true', Bool.not_eq_false', beq_iff_eq, beq_eq_false_iff_ne, Int.not_lt, Int.not_le] at h37
          have hT : tm ≤ k + 1 := by omega
          have e1 : (ints (sufOf p))[k + 1 - tm]? = some (((sufOf p).getD (k + 1 - tm) 0 : Nat) : Int) := by rw [some_getD 0 (show k + 1 - tm < (ints (sufOf p)).length by omega), ints_getD]
          have b1 := perm_lt (sufOf_is p).1 (show k + 1 - tm < p.length by omega)
          have hw0 : win p (sufOf p) (k + 1 - tm) 0 = p.length - (sufOf p).getD (k + 1 - tm) 0 := rfl
          refine St.part v28 (k + 2 - tm) (k + 1) (by omega) (by omega) ?_
          have hpl : (((ints (nears p (sufOf p))).drop (k + 2 - tm)).take (k + 1 - (k + 2 - tm))).length = tm - 1 := by rw [List.length_take, List.length_drop, hni, hnl]; omega
          have hpe : ∀ c, c < tm - 1 → (((ints (nears p (sufOf p))).drop (k + 2 - tm)).take (k + 1 - (k + 2 - tm)))[c]? = some ((near p (sufOf p) (k + 1 - tm + c + 1) : Nat) : Int) := by
            intro c hc
            rw [List.getElem?_take_of_lt (by omega), List.getElem?_drop, show k + 2 - tm + c = k + 1 - tm + c + 1 by omega, some_getD 0 (show k + 1 - tm + c + 1 < (ints (nears p (sufOf p))).length by omega), ints_getD, nears_at (by omega)]
          generalize (((ints (nears p (sufOf p))).drop (k + 2 - tm)).take (k + 1 - (k + 2 - tm))) = part at hpl hpe ⊢
          refine St.skip ?_
          refine St.then_normal ?_
          refine St.seq ?_
          refine St.rg ?_
          refine St.ev _ (Ev.move (Opd.mk rfl)) rfl ?_
          refine St.ev _ (Ev.move (Opd.mk rfl)) rfl ?_
          refine St.ev _ (Ev.move (Opd.mk rfl)) rfl ?_
          refine St.ev _ (Ev.sub (Opd.mk rfl) (Opd.mk rfl) (by omega)) rfl ?_
          refine St.ev _ (Ev.add (Opd.mk rfl) (Opd.mk rfl) (by omega)) rfl ?_
          refine St.ev _ (Ev.idxaddr (k := (k + 1 - tm)) (Opd.mk rfl) (Opd.mk rfl) Try.underlying22 sz3 (by omega) (by omega)) rfl ?_
          refine St.ev _ (Ev.ld1 (Opd.mk rfl) e1 Try.underlying3 trivial rfl) rfl ?_
          refine St.ev _ (Ev.assign (Opd.mk rfl)) rfl ?_
          refine St.nil ?_
          refine St.then_normal ?_
          refine St.seq ?_
          refine St.rg ?_
          refine St.ev _ (Ev.move (Opd.mk rfl)) rfl ?_
          refine St.ev _ (Ev.lensl (Opd.mk rfl) Try.underlying22) rfl ?_
          refine St.ev _ (Ev.move (Opd.mk rfl)) rfl ?_
          refine St.ev _ (Ev.sub (Opd.mk rfl) (Opd.mk rfl) (by omega)) rfl ?_
          refine St.ev _ (Ev.assign (Opd.mk rfl)) rfl ?_
          refine St.nil ?_
          refine St.then_normal ?_
          refine St.seq ?_
          refine St.seq ?_
          refine St.rg ?_
          refine St.ev _ (Ev.move (Opd.mk rfl)) rfl ?_
          refine St.ev _ (Ev.move (Opd.mk rfl)) rfl ?_
          refine St.ev _ (Ev.move (Opd.mk rfl)) rfl ?_
          refine St.ev _ (Ev.sub (Opd.mk rfl) (Opd.mk rfl) (by omega)) rfl ?_
          refine St.ev _ (Ev.add (Opd.mk rfl) (Opd.mk rfl) (by omega)) rfl ?_
          refine St.ev _ (Ev.move (Opd.mk rfl)) rfl ?_
          refine St.ev _ (Ev.add (Opd.mk rfl) (Opd.mk rfl) (by omega)) rfl ?_
          refine St.ev _ (Ev.slicesl (l := (k + 2 - tm)) (h := (k + 1)) (Opd.mk rfl) (Opd.mk rfl) (Opd.mk rfl) Try.underlying22 sz3 (by omega) (by omega) (by omega) (by omega)) rfl ?_
          refine St.ev _ (Ev.lensl (Opd.mk rfl) Try.underlying22) rfl ?_
          rw [hpl]
          refine St.ev _ (Ev.move (Opd.mk rfl)) rfl ?_
          refine St.nil ?_
          refine St.then_normal ?_
          refine St.block ?_
          refine St.loopS (ι := Nat) (fun c T => (58, iv c) :: (12, iv (win p (sufOf p) (k + 1 - tm) c : Nat)) :: T) (fun c => c ≤ tm - 1) (fun c => tm - 1 - c) 0 (Keep.cons 0 rfl (Keep.cons 1 rfl (Keep.cons 4 rfl (Keep.cons 5 rfl (Keep.cons 7 rfl (Keep.cons 8 rfl (Keep.cons 9 rfl (Keep.cons 11 rfl (Keep.cons 30 rfl (Keep.cons 31 rfl (Keep.cons 56 rfl (Keep.cons 57 rfl Keep.nil)))))))))))) (Nat.zero_le _) (by repeat (first | exact Sub.nil | refine Sub.cons (by first | rfl | exact congrArg (fun z => some (iv z)) (by first | omega | (dsimp only; omega)) | exact congrArg (fun z => some (Value.bool z)) (by first | assumption | exact Eq.symm (by assumption))) ?_)) ?_
          intro c hphi
          refine St.seq ?_
          refine St.rg ?_
          refine St.ev _ (Ev.lss (Opd.mk rfl) (Opd.mk rfl)) rfl ?_
          refine St.nil ?_
          refine St.then_normal ?_
          refine St.seq ?_
          refine St.cond _ rfl (fun h59 => ?_) (fun h59 => ?_)
          · skip
            try simp only [Bool.and_true, Bool.true_and, decide_eq_true_eq, decide_eq_false_iff_not, Bool.and_eq_true, Bool.or_eq_true, Bool.and_eq_false_iff, Bool.or_eq_false_iff, Bool.not_eq_true', Bool.not_eq_false', beq_iff_eq, beq_eq_false_iff_ne, Int.not_lt, Int.not_le] at h59
            have e2 := hpe c (by omega)
            refine St.skip ?_
            refine St.then_normal ?_
            refine St.seq ?_
            refine St.block ?_
            refine St.seq ?_
            refine St.rg ?_
            refine St.ev _ (Ev.idxaddr (k := c) (Opd.mk rfl) (Opd.mk rfl) Try.underlying22 sz3 (by omega) (by omega)) rfl ?_
            refine St.ev _ (Ev.ld1 (Opd.mk rfl) e2 Try.underlying3 trivial rfl) rfl ?_
            refine St.ev _ (Ev.assign (Opd.mk rfl)) rfl ?_
            refine St.nil ?_
            refine St.then_normal ?_
            refine St.rg ?_
            refine St.ev _ (Ev.move (Opd.mk rfl)) rfl ?_
            refine St.ev _ (Ev.move (Opd.mk rfl)) rfl ?_
            refine St.ev _ (Ev.minI (Opd.mk rfl) (Opd.mk rfl)) rfl ?_
            refine St.ev _ (Ev.assign (Opd.mk rfl)) rfl ?_
            refine St.nil ?_
            refine St.in_normal ?_
            refine St.then_normal ?_
            refine St.rg ?_
            refine St.ev _ (Ev.add (Opd.mk rfl) (Opd.mk rfl) (by omega)) rfl ?_
            refine St.ev _ (Ev.move (Opd.mk rfl)) rfl ?_
            refine St.nil ?_
            refine St.then_normal ?_
            have hwc : win p (sufOf p) (k + 1 - tm) (c + 1) = min (win p (sufOf p) (k + 1 - tm) c) (near p (sufOf p) (k + 1 - tm + c + 1)) := rfl
            refine St.againS (c + 1) (by omega) (by first | omega | (dsimp only; omega)) (by repeat (first | exact Sub.nil | refine Sub.cons (by first | rfl | exact congrArg (fun z => some (iv z)) (by first | omega | (dsimp only; omega)) | exact congrArg (fun z => some (Value.bool z)) (by first | assumption | exact Eq.symm (by assumption))) ?_)) (fun _ hw => hw.sub)
          · skip
            try simp only [Bool.and_true, Bool.true_and, decide_eq_true_eq, decide_eq_false_iff_not, Bool.and_eq_true, Bool.or_eq_true, Bool.and_eq_false_iff, Bool.or_eq_false_iff, Bool.not_eq_true', Bool.not_eq_false', beq_iff_eq, beq_eq_false_iff_ne, Int.not_lt, Int.not_le] at h59
            obtain rfl : c = tm - 1 := by omega
            have hwl := win_le (p := p) (l := sufOf p) (a := k + 1 - tm) (tm - 1)
            refine St.exit ?_
            refine St.then_exit ?_
            refine St.then_exit ?_
            refine St.in_hit ?_
            refine St.then_normal ?_
            refine St.seq ?_
            refine St.rg ?_
            refine St.ev _ (Ev.move (Opd.mk rfl)) rfl ?_
            refine St.ev _ (Ev.move (Opd.mk rfl)) rfl ?_
            refine St.ev _ (Ev.lensl (Opd.mk rfl) Try.underlying22) rfl ?_
            refine St.ev _ (Ev.gtr (Opd.mk rfl) (Opd.mk rfl)) rfl ?_
            refine St.nil ?_
            refine St.then_normal ?_
            refine St.cond _ rfl (fun h69 => ?_) (fun h69 => ?_)
            · skip
              try simp only [Bool.and_true, Bool.true_and, decide_eq_true_eq, decide_eq_false_iff_not, Bool.and_eq_true, Bool.or_eq_true, Bool.and_eq_false_iff, Bool.or_eq_false_iff, Bool.not_eq_true', Bool.not_eq_false', beq_iff_eq, beq_eq_false_iff_ne, Int.not_lt, Int.not_le] at h69
              refine St.part v0 ((sufOf p).getD (k + 1 - tm) 0) ((sufOf p).getD (k + 1 - tm) 0 + win p (sufOf p) (k + 1 - tm) (tm - 1)) (by omega) (by omega) ?_
              rw [show intR.size = 1 from rfl, show (p.drop ((sufOf p).getD (k + 1 - tm) 0)).take ((sufOf p).getD (k + 1 - tm) 0 + win p (sufOf p) (k + 1 - tm) (tm - 1) - (sufOf p).getD (k + 1 - tm) 0) = pre p (win p (sufOf p) (k + 1 - tm) (tm - 1)) ((sufOf p).getD (k + 1 - tm) 0) by unfold pre; congr 1; omega]
              refine St.rg ?_
              refine St.ev _ (Ev.move (Opd.mk rfl)) rfl ?_
              refine St.ev _ (Ev.move (Opd.mk rfl)) rfl ?_
              refine St.ev _ (Ev.move (Opd.mk rfl)) rfl ?_
              refine St.ev _ (Ev.move (Opd.mk rfl)) rfl ?_
              refine St.ev _ (Ev.add (Opd.mk rfl) (Opd.mk rfl) (by omega)) rfl ?_
              refine St.ev _ (Ev.slicesl (l := ((sufOf p).getD (k + 1 - tm) 0)) (h := ((sufOf p).getD (k + 1 - tm) 0 + win p (sufOf p) (k + 1 - tm) (tm - 1))) (Opd.mk rfl) (Opd.mk rfl) (Opd.mk rfl) Try.underlying22 sz3 (by omega) (by omega) (by omega) (by omega)) rfl ?_
              refine St.ev _ (Ev.assign (Opd.mk rfl)) rfl ?_
              refine St.nil ?_
              refine St.in_normal ?_
              refine St.then_normal ?_
              refine St.rg ?_
              refine St.ev _ (Ev.add (Opd.mk rfl) (Opd.mk rfl) (by omega)) rfl ?_
              refine St.ev _ (Ev.move (Opd.mk rfl)) rfl ?_
              refine St.nil ?_
              refine St.then_normal ?_
              refine St.againH2 (k + 1, pre p (win p (sufOf p) (k + 1 - tm) (tm - 1)) ((sufOf p).getD (k + 1 - tm) 0)) (slv v0 1 ((sufOf p).getD (k + 1 - tm) 0) ((sufOf p).getD (k + 1 - tm) 0 + win p (sufOf p) (k + 1 - tm) (tm - 1))) ⟨by show k + 1 ≤ _; omega, hlg.more hT (by show b.length < win p (sufOf p) (k + 1 - tm) (tm - 1); omega), by show (pre _ _ _).length ≤ _; rw [pre_length]; omega⟩ (by first | omega | (dsimp only; omega)) (by repeat (first | exact Sub.nil | refine Sub.cons (by first | rfl | exact congrArg (fun z => some (iv z)) (by first | omega | (dsimp only; omega)) | exact congrArg (fun z => some (Value.bool z)) (by first | assumption | exact Eq.symm (by assumption))) ?_)) (fun _ hw => hw.sub)
            · skip
              try simp only [Bool.and_true, Bool.true_and, decide_eq_true_eq, decide_eq_false_iff_not, Bool.and_eq_true, Bool.or_eq_true, Bool.and_eq_false_iff, Bool.or_eq_false_iff, Bool.not_eq_true', Bool.not_eq_false', beq_iff_eq, beq_eq_false_iff_ne, Int.not_lt, Int.not_le] at h69
              refine St.skip ?_
              refine St.in_normal ?_
              refine St.then_normal ?_
              refine St.rg ?_
              refine St.ev _ (Ev.add (Opd.mk rfl) (Opd.mk rfl) (by omega)) rfl ?_
              refine St.ev _ (Ev.move (Opd.mk rfl)) rfl ?_
              refine St.nil ?_
              refine St.then_normal ?_
              refine St.againH2 (k + 1, b) w ⟨by show k + 1 ≤ _; omega, hlg.stay hT (by show win p (sufOf p) (k + 1 - tm) (tm - 1) ≤ b.length; omega), hbl⟩ (by first | omega | (dsimp only; omega)) (by repeat (first | exact Sub.nil | refine Sub.cons (by first | rfl | exact congrArg (fun z => some (iv z)) (by first | omega | (dsimp only; omega)) | exact congrArg (fun z => some (Value.bool z)) (by first | assumption | exact Eq.symm (by assumption))) ?_)) (fun _ hw => hw.sub)
      · skip
        try simp only [Bool.and_true, Bool.true_and, decide_eq_true_eq, decide_eq_false_iff_not, Bool.and_eq_true, Bool.or_eq_true, Bool.and_eq_false_iff, Bool.or_eq_false_iff, Bool.not_eq_true', Bool.not_eq_false', beq_iff_eq, beq_eq_false_iff_ne, Int.not_lt, Int.not_le] at h32
        obtain rfl : k = p.length := by omega
        have hlt := hlg.done (sufOf_is p) hT1
        obtain rfl := lgOf_eq hlt
        refine St.exit ?_
        refine St.then_exit ?_
        refine St.then_exit ?_
        refine St.in_hit ?_
        refine St.then_normal ?_
        refine St.seq ?_
        refine St.rg ?_
        refine St.ev _ (Ev.move (Opd.mk rfl)) rfl ?_
        refine St.calld (Clone_spec w (lgOf p tm) (by omega)) cb33 (Opds.cons (Opd.mk rfl) Opds.nil) rfl ?_
        rintro v78 _ ⟨h1, rfl⟩
        refine St.app1 ?_
        refine St.ev _ (Ev.build (ps := []) (Opds.nil) (fun w => bld25_  w)) rfl ?_
        refine St.ev _ (Ev.assign (Opd.mk rfl)) rfl ?_
        refine St.storeA (Opd.mk rfl) (Opd.mk rfl) sz25 (by first | simp only [List.length_cons, List.length_nil] | rfl) rfl ?_
        refine St.nil ?_
        refine St.then_normal ?_
        refine St.rett ?_
        refine St.rets [_, _] [row v78 3 1 (lgOf p tm).length (rows intR (lgOf p tm))] Try.results23 ⟨rfl, ⟨⟨_, _, _, _, rfl, InB.mem, .inl ⟨⟨_, Try.underlying25⟩, sz25, rfl⟩⟩, trivial⟩⟩ ?_ (fun _ hw => hw.sub)
        rw [lgV_t (by rw [lgF_3 hz (by omega)]), lgF_3 hz (by omega)]; exact ⟨_, rfl, h1, rfl⟩

theorem Smaller_spec (v0 v1 : Value) (a b : List Int) (hl : a.length = b.length) : FnV Try.prog 37 #[v0, v1] [sl intR v0 a, sl intR v1 b] (.bool (llt a b)) := by
  refine FnV.body2 (args := [v0, v1]) 30 Try.func37 rfl Try.ntmps37 rfl (fun c => ?_)
  refine St.seq ?_
  refine St.wf v0 (fun hwf0 hlen0 => ?_)
  refine St.rg ?_
  refine St.ev _ (Ev.assign (Opd.mk rfl)) rfl ?_
  refine St.nil ?_
  refine St.then_normal ?_
  refine St.seq ?_
  refine St.seq ?_
  refine St.rg ?_
  refine St.ev _ (Ev.assign (Opd.mk rfl)) rfl ?_
  refine St.nil ?_
  refine St.then_normal ?_
  refine St.block ?_
  refine St.loopS (ι := Nat) (fun k T => (5, iv k) :: T) (fun k => k ≤ a.length ∧ llt a b = llt (a.drop k) (b.drop k)) (fun k => a.length - k) 0 (Keep.cons 0 rfl (Keep.cons 1 rfl Keep.nil)) ⟨Nat.zero_le _, rfl⟩ (by repeat (first | exact Sub.nil | refine Sub.cons (by first | rfl | exact congrArg (fun z => some (iv z)) (by first | omega | (dsimp only; omega)) | exact congrArg (fun z => some (Value.bool z)) (by first | assumption | exact Eq.symm (by assumption))) ?_)) ?_
  intro k hphi
  obtain ⟨hk, hv⟩ := hphi
  refine St.seq ?_
  refine St.seq ?_
  refine St.rg ?_
  refine St.ev _ (Ev.move (Opd.mk rfl)) rfl ?_
  refine St.ev _ (Ev.move (Opd.mk rfl)) rfl ?_
  refine St.ev _ (Ev.lensl (Opd.mk rfl) Try.underlying22) rfl ?_
  refine St.ev _ (Ev.lss (Opd.mk rfl) (Opd.mk rfl)) rfl ?_
  refine St.nil ?_
  refine St.then_normal ?_
  refine St.cond _ rfl (fun h9 => ?_) (fun h9 => ?_)
  · skip
    try simp only [Bool.and_true, Bool.true_and, decide_eq_true_eq, decide_eq_false_iff_not, Bool.and_eq_true, Bool.or_eq_true, Bool.and_eq_false_iff, Bool.or_eq_false_iff, Bool.not_eq_true', Bool.not_eq_false', beq_iff_eq, beq_eq_false_iff_ne, Int.not_lt, Int.not_le] at h9
    refine St.skip ?_
    refine St.then_normal ?_
    refine St.seq ?_
    refine St.block ?_
    refine St.seq ?_
    refine St.rq mixed (by kernel_rfl) (Mm.drawn _ _) ?_
    refine Sq.ev _ (Ev.move (Opd.mk rfl)) rfl ?_
    refine Sq.ev _ (Ev.move (Opd.mk rfl)) rfl ?_
    refine Sq.ev _ (Ev.idxaddr (k := k) (Opd.mk rfl) (Opd.mk rfl) Try.underlying22 sz3 (by omega) (by omega)) rfl ?_
    refine Sq.ev _ (Ev.ld1 (Opd.mk rfl) (some_getD 0 (by omega)) Try.underlying3 trivial rfl) rfl ?_
    refine Sq.ev _ (Ev.move (Opd.mk rfl)) rfl ?_
    refine Sq.ev _ (Ev.move (Opd.mk rfl)) rfl ?_
    refine Sq.ev _ (Ev.idxaddr (k := k) (Opd.mk rfl) (Opd.mk rfl) Try.underlying22 sz3 (by omega) (by omega)) rfl ?_
    refine Sq.ev _ (Ev.ld1 (Opd.mk rfl) (some_getD 0 (by omega)) Try.underlying3 trivial rfl) rfl ?_
    refine Sq.ev _ (Ev.neq (Opd.mk rfl) (Opd.mk rfl)) rfl ?_
    refine Sq.nil ?_
    refine St.then_normal ?_
    refine St.cond _ rfl (fun h20 => ?_) (fun h20 => ?_)
    · skip
      try simp only [Bool.and_true, Bool.true_and, decide_eq_true_eq, decide_eq_false_iff_not, Bool.and_eq_true, Bool.or_eq_true, Bool.and_eq_false_iff, Bool.or_eq_false_iff, Bool.not_eq_true', Bool.not_eq_false', beq_iff_eq, beq_eq_false_iff_ne, Int.not_lt, Int.not_le] at h20
      refine St.seq ?_
      refine St.rq mixed (by kernel_rfl) (Mm.drawn _ _) ?_
      refine Sq.ev _ (Ev.move (Opd.mk rfl)) rfl ?_
      refine Sq.ev _ (Ev.move (Opd.mk rfl)) rfl ?_
      refine Sq.ev _ (Ev.idxaddr (k := k) (Opd.mk rfl) (Opd.mk rfl) Try.underlying22 sz3 (by omega) (by omega)) rfl ?_
      refine Sq.ev _ (Ev.ld1 (Opd.mk rfl) (some_getD 0 (by omega)) Try.underlying3 trivial rfl) rfl ?_
      refine Sq.ev _ (Ev.move (Opd.mk rfl)) rfl ?_
      refine Sq.ev _ (Ev.move (Opd.mk rfl)) rfl ?_
      refine Sq.ev _ (Ev.idxaddr (k := k) (Opd.mk rfl) (Opd.mk rfl) Try.underlying22 sz3 (by omega) (by omega)) rfl ?_
      refine Sq.ev _ (Ev.ld1 (Opd.mk rfl) (some_getD 0 (by omega)) Try.underlying3 trivial rfl) rfl ?_
      refine Sq.ev _ (Ev.lss (Opd.mk rfl) (Opd.mk rfl)) rfl ?_
      refine Sq.ev _ (Ev.assign (Opd.mk rfl)) rfl ?_
      refine Sq.nil ?_
      refine St.then_normal ?_
      refine St.rett ?_
      refine St.in_ret ?_
      refine St.then_ret ?_
      refine St.then_ret ?_
      refine St.in_ret ?_
      refine St.then_ret ?_
      refine St.rets [_] [] Try.results37 ⟨rfl, trivial⟩ ?_ (fun _ hw => hw.sub)
      exact be (by rw [hv, llt_step (by omega) (by omega), if_neg h20])
    · skip
      try simp only [Bool.and_true, Bool.true_and, decide_eq_true_eq, decide_eq_false_iff_not, Bool.and_eq_true, Bool.or_eq_true, Bool.and_eq_false_iff, Bool.or_eq_false_iff, Bool.not_eq_true', Bool.not_eq_false', beq_iff_eq, beq_eq_false_iff_ne, Int.not_lt, Int.not_le] at h20
      have h20 : a.getD k 0 = b.getD k 0 := by omega
      refine St.skip ?_
      refine St.in_normal ?_
      refine St.then_normal ?_
      refine St.rg ?_
      refine St.ev _ (Ev.move (Opd.mk rfl)) rfl ?_
      refine St.ev _ (Ev.add (Opd.mk rfl) (Opd.mk rfl) (by omega)) rfl ?_
      refine St.ev _ (Ev.assign (Opd.mk rfl)) rfl ?_
      refine St.nil ?_
      refine St.then_normal ?_
      refine St.againS (k + 1) ⟨by omega, by rw [hv, llt_step (by omega) (by omega), if_pos h20]⟩ (by first | omega | (dsimp only; omega)) (by repeat (first | exact Sub.nil | refine Sub.cons (by first | rfl | exact congrArg (fun z => some (iv z)) (by first | omega | (dsimp only; omega)) | exact congrArg (fun z => some (Value.bool z)) (by first | assumption | exact Eq.symm (by assumption))) ?_)) (fun _ hw => hw.sub)
  · skip
    try simp only [Bool.and_true, Bool.true_and, decide_eq_true_eq, decide_eq_false_iff_not, Bool.and_eq_true, Bool.or_eq_true, Bool.and_eq_false_iff, Bool.or_eq_false_iff, Bool.not_eq_true', Bool.not_eq_false', beq_iff_eq, beq_eq_false_iff_ne, Int.not_lt, Int.not_le] at h9
    refine St.exit ?_
    refine St.then_exit ?_
    refine St.then_exit ?_
    refine St.in_hit ?_
    refine St.then_normal ?_
    refine St.seq ?_
    refine St.rg ?_
    refine St.ev _ (Ev.assign (Opd.mk rfl)) rfl ?_
    refine St.nil ?_
    refine St.then_normal ?_
    refine St.rett ?_
    refine St.rets [_] [] Try.results37 ⟨rfl, trivial⟩ ?_ (fun _ hw => hw.sub)
    exact be (by rw [hv, List.drop_of_length_le (show a.length ≤ k by omega), List.drop_of_length_le (show b.length ≤ k by omega)]; rfl)

theorem Repeated_spec (v0 : Value) (p : List Int) (hn : p.length ≤ 2000) (tm : Nat) (hT1 : 1 ≤ tm) : FnH Try.prog 24 #[v0, iv tm] ([sl intR v0 p].map dat) (fun u H' => H' = [dat (sl intR u (lgOf p tm))]) := by
  refine FnH.body (args := [v0, iv tm]) 52 Try.func24 rfl Try.ntmps24 rfl (fun c => ?_)
  refine St.seq ?_
  refine St.cast (H' := [dat (sl intR v0 p)]) rfl ?_
  refine St.rg ?_
  refine St.ev _ (Ev.assign (Opd.mk rfl)) rfl ?_
  refine St.nil ?_
  refine St.then_normal ?_
  refine St.seq ?_
  refine St.seq ?_
  refine St.rg ?_
  refine St.ev _ (Ev.move (Opd.mk rfl)) rfl ?_
  refine St.ev _ (Ev.lensl (Opd.mk rfl) Try.underlying22) rfl ?_
  refine St.ev _ (Ev.assign (Opd.mk rfl)) rfl ?_
  refine St.nil ?_
  refine St.then_normal ?_
  refine St.block ?_
  refine St.loopH (ι := Nat) (fun m T => (5, iv m) :: T) (fun m => [dat (sl intR v0 p)]) (fun m => m ≤ p.length ∧ NoMore p tm m) (fun m => m) p.length (Keep.cons 0 rfl (Keep.cons 1 rfl Keep.nil)) ⟨Nat.le_refl _, NoMore.top hT1⟩ (by repeat (first | exact Sub.nil | refine Sub.cons (by first | rfl | exact congrArg (fun z => some (iv z)) (by first | omega | (dsimp only; omega)) | exact congrArg (fun z => some (Value.bool z)) (by first | assumption | exact Eq.symm (by assumption))) ?_)) (fun _ hw => hw.sub) ?_
  intro m hphi
  obtain ⟨hm, hN⟩ := hphi
  refine St.seq ?_
  refine St.seq ?_
  refine St.rg ?_
  refine St.ev _ (Ev.move (Opd.mk rfl)) rfl ?_
  refine St.ev _ (Ev.gtr (Opd.mk rfl) (Opd.mk rfl)) rfl ?_
  refine St.nil ?_
  refine St.then_normal ?_
  refine St.cond _ rfl (fun h12 => ?_) (fun h12 => ?_)
  · skip
    try simp only [Bool.and_true, Bool.true_and, decide_eq_true_eq, decide_eq_false_iff_not, Bool.and_eq_true, Bool.or_eq_true, Bool.and_eq_false_iff, Bool.or_eq_false_iff, Bool.not_eq_true', Bool.not_eq_false', beq_iff_eq, beq_eq_false_iff_ne, Int.not_lt, Int.not_le] at h12
    have hm0 : 0 < m := by omega
    refine St.skip ?_
    refine St.then_normal ?_
    refine St.seq ?_
    refine St.block ?_
    refine St.seq ?_
    refine St.rg ?_
    refine St.buildSl (xs := []) (ps := []) rfl (Opds.nil) Try.underlying22 sz3 zv3 rfl rfl (by simp [Value.cells]) rfl rfl (fun b15 => ?_)
    refine St.publish (.slice (some ⟨b15, 0, none⟩) 0 0) intR [] rfl rfl (by intro x hx; cases hx) ?_
    refine St.ev _ (Ev.assign (Opd.mk rfl)) rfl ?_
    refine St.nil ?_
    refine St.then_normal ?_
    refine St.seq ?_
    refine St.seq ?_
    refine St.rg ?_
    refine St.ev _ (Ev.assign (Opd.mk rfl)) rfl ?_
    refine St.nil ?_
    refine St.then_normal ?_
    refine St.block ?_
    refine St.loopH2 (ι := Nat × List Int) (κ := Value) (fun x w T => (7, iv x.1) :: (6, w) :: T) (fun x w => [dat (sl intR w x.2), dat (sl intR v0 p)]) (fun x w => x.1 + m ≤ p.length + 1 ∧ RpI p tm m x.1 x.2) (fun x w => p.length + 1 - x.1) (0, []) (.slice (some ⟨b15, 0, none⟩) 0 0) (Keep.cons 0 rfl (Keep.cons 1 rfl (Keep.cons 5 rfl Keep.nil))) ⟨by show 0 + m ≤ _; omega, RpI.zero⟩ (by repeat (first | exact Sub.nil | refine Sub.cons (by first | rfl | exact congrArg (fun z => some (iv z)) (by first | omega | (dsimp only; omega)) | exact congrArg (fun z => some (Value.bool z)) (by first | assumption | exact Eq.symm (by assumption))) ?_)) (fun _ hw => hw.sub) ?_
    rintro ⟨i, b⟩ w ⟨hi, hrp⟩
    dsimp only at hi hrp ⊢
    refine St.seq ?_
    refine St.seq ?_
    refine St.rg ?_
    refine St.ev _ (Ev.move (Opd.mk rfl)) rfl ?_
    refine St.ev _ (Ev.move (Opd.mk rfl)) rfl ?_
    refine St.ev _ (Ev.add (Opd.mk rfl) (Opd.mk rfl) (by omega)) rfl ?_
    refine St.ev _ (Ev.move (Opd.mk rfl)) rfl ?_
    refine St.ev _ (Ev.lensl (Opd.mk rfl) Try.underlying22) rfl ?_
    refine St.ev _ (Ev.leq (Opd.mk rfl) (Opd.mk rfl)) rfl ?_
    refine St.nil ?_
    refine St.then_normal ?_
    refine St.cond _ rfl (fun h21 => ?_) (fun h21 => ?_)
    · skip
      try simp only [Bool.and_true, Bool.true_and, decide_eq_true_eq, decide_eq_false_iff_not, Bool.and_eq_true, Bool.or_eq_true, Bool.and_eq_false_iff, Bool.or_eq_false_iff, Bool.not_eq_true', Bool.not_eq_false', beq_iff_eq, beq_eq_false_iff_ne, Int.not_lt, Int.not_le] at h21
      have him : i + m ≤ p.length := by omega
      refine St.part v0 i (i + m) (by omega) (by omega) ?_
      rw [show intR.size = 1 from rfl, show (p.drop i).take (i + m - i) = pre p m i by unfold pre; congr 1; omega]
      have hpl : (pre p m i).length = m := by rw [pre_length]; omega
      refine St.skip ?_
      refine St.then_normal ?_
      refine St.seq ?_
      refine St.block ?_
      refine St.seq ?_
      refine St.rg ?_
      refine St.ev _ (Ev.move (Opd.mk rfl)) rfl ?_
      refine St.ev _ (Ev.move (Opd.mk rfl)) rfl ?_
      refine St.ev _ (Ev.move (Opd.mk rfl)) rfl ?_
      refine St.ev _ (Ev.move (Opd.mk rfl)) rfl ?_
      refine St.ev _ (Ev.add (Opd.mk rfl) (Opd.mk rfl) (by omega)) rfl ?_
      refine St.ev _ (Ev.slicesl (l := i) (h := (i + m)) (Opd.mk rfl) (Opd.mk rfl) (Opd.mk rfl) Try.underlying22 sz3 (by omega) (by omega) (by omega) (by omega)) rfl ?_
      refine St.ev _ (Ev.assign (Opd.mk rfl)) rfl ?_
      refine St.nil ?_
      refine St.then_normal ?_
      refine St.seq ?_
      refine St.rg ?_
      refine St.ev _ (Ev.move (Opd.mk rfl)) rfl ?_
      refine St.ev _ (Ev.lensl (Opd.mk rfl) Try.underlying22) rfl ?_
      refine St.ev _ (Ev.eql (Opd.mk rfl) (Opd.mk rfl)) rfl ?_
      refine St.ev _ (Ev.move (Opd.mk rfl)) rfl ?_
      refine St.gf _ rfl rfl (fun hg => Ev.move (Opd.mk rfl)) rfl ?_
      refine St.gf _ rfl rfl (fun hg => Ev.move (Opd.mk rfl)) rfl ?_
      refine St.gf _ rfl rfl (fun hg => Ev.call (Smaller_spec (slv v0 1 i (i + m)) w (pre p m i) b (by simp only [Bool.and_true, Bool.true_and, decide_eq_true_eq, decide_eq_false_iff_not, Bool.and_eq_true, Bool.or_eq_true, Bool.and_eq_false_iff, Bool.or_eq_false_iff, Bool.not_eq_true', Bool.not_eq_false', beq_iff_eq, beq_eq_false_iff_ne, Int.not_lt, Int.not_le] at hg; have := hrp.len; omega)) cb37 (Opds.cons (Opd.gv rfl hg) (Opds.cons (Opd.gv rfl hg) Opds.nil))) rfl ?_
      refine St.ev _ (Ev.or (Opd.mk rfl) (fun hp => Opd.gv rfl hp)) rfl ?_
      refine St.ev _ (Ev.move (Opd.mk rfl)) rfl ?_
      refine St.split 38 _ rfl (fun h38 => ?_) (fun h38 => ?_)
      · skip
        simp only [Bool.and_true, Bool.true_and, decide_eq_true_eq, decide_eq_false_iff_not, Bool.and_eq_true, Bool.or_eq_true, Bool.and_eq_false_iff, Bool.or_eq_false_iff, Bool.not_eq_true', Bool.not_eq_false', beq_iff_eq, beq_eq_false_iff_ne, Int.not_lt, Int.not_le] at h38
        have hc1 : b = [] ∨ llt (pre p m i) b = true := h38.imp (fun q => List.eq_nil_of_length_eq_zero (by omega)) id
        refine St.takeg rfl rfl ?_
        refine St.ev _ (Ev.move (Opd.mk rfl)) rfl ?_
        refine St.takeg rfl rfl ?_
        refine St.ev _ (Ev.move (Opd.mk rfl)) rfl ?_
        refine St.takeg rfl rfl ?_
        refine St.calld (Places_spec v0 (slv v0 1 i (i + m)) p (pre p m i) hn (by omega)) cb18 (Opds.cons (Opd.mk rfl) (Opds.cons (Opd.mk rfl) Opds.nil)) rfl ?_
        rintro v41 _ ⟨h1, rfl⟩
        refine St.app1 ?_
        refine St.publish v41 intR (ints (placesOf p (pre p m i))) rfl (ints_length _).symm (places_wf hn) ?_
        have hpo : (ints (placesOf p (pre p m i))).length = occ p (pre p m i) := ints_length _
        refine St.takeg rfl rfl ?_
        refine St.ev _ (Ev.lensl (Opd.mk rfl) Try.underlying22) rfl ?_
        refine St.takeg rfl rfl ?_
        refine St.ev _ (Ev.move (Opd.mk rfl)) rfl ?_
        refine St.takeg rfl rfl ?_
        refine St.ev _ (Ev.geq (Opd.mk rfl) (Opd.mk rfl)) rfl ?_
        refine St.ev _ (Ev.pickt (Opd.mk rfl) rfl (Opd.mk rfl)) rfl ?_
        refine St.nil ?_
        refine St.then_normal ?_
        refine St.cond _ rfl (fun h45 => ?_) (fun h45 => ?_)
        · skip
          try simp only [Bool.and_true, Bool.true_and, decide_eq_true_eq, decide_eq_false_iff_not, Bool.and_eq_true, Bool.or_eq_true, Bool.and_eq_false_iff, Bool.or_eq_false_iff, Bool.not_eq_true', Bool.not_eq_false', beq_iff_eq, beq_eq_false_iff_ne, Int.not_lt, Int.not_le] at h45
          refine St.rg ?_
          refine St.ev _ (Ev.move (Opd.mk rfl)) rfl ?_
          refine St.ev _ (Ev.assign (Opd.mk rfl)) rfl ?_
          refine St.nil ?_
          refine St.in_normal ?_
          refine St.then_normal ?_
          refine St.rg ?_
          refine St.ev _ (Ev.move (Opd.mk rfl)) rfl ?_
          refine St.ev _ (Ev.add (Opd.mk rfl) (Opd.mk rfl) (by omega)) rfl ?_
          refine St.ev _ (Ev.assign (Opd.mk rfl)) rfl ?_
          refine St.nil ?_
          refine St.then_normal ?_
          refine St.againH2 (i + 1, pre p m i) (slv v0 1 i (i + m)) ⟨by show i + 1 + m ≤ _; omega, hrp.take hm0 him ⟨hc1, by omega⟩⟩ (by show p.length + 1 - (i + 1) < p.length + 1 - i; omega) (by repeat (first | exact Sub.nil | refine Sub.cons (by first | rfl | exact congrArg (fun z => some (iv z)) (by first | omega | (dsimp only; omega)) | exact congrArg (fun z => some (Value.bool z)) (by first | assumption | exact Eq.symm (by assumption))) ?_)) (fun _ hw => hw.sub)
        · skip
          try simp only [Bool.and_true, Bool.true_and, decide_eq_true_eq, decide_eq_false_iff_not, Bool.and_eq_true, Bool.or_eq_true, Bool.and_eq_false_iff, Bool.or_eq_false_iff, Bool.not_eq_true', Bool.not_eq_false', beq_iff_eq, beq_eq_false_iff_ne, Int.not_lt, Int.not_le] at h45
          refine St.skip ?_
          refine St.in_normal ?_
          refine St.then_normal ?_
          refine St.rg ?_
          refine St.ev _ (Ev.move (Opd.mk rfl)) rfl ?_
          refine St.ev _ (Ev.add (Opd.mk rfl) (Opd.mk rfl) (by omega)) rfl ?_
          refine St.ev _ (Ev.assign (Opd.mk rfl)) rfl ?_
          refine St.nil ?_
          refine St.then_normal ?_
          refine St.againH2 (i + 1, b) w ⟨by show i + 1 + m ≤ _; omega, hrp.stay (by rintro ⟨_, q⟩; omega)⟩ (by show p.length + 1 - (i + 1) < p.length + 1 - i; omega) (by repeat (first | exact Sub.nil | refine Sub.cons (by first | rfl | exact congrArg (fun z => some (iv z)) (by first | omega | (dsimp only; omega)) | exact congrArg (fun z => some (Value.bool z)) (by first | assumption | exact Eq.symm (by assumption))) ?_)) (fun _ hw => hw.sub)
      · skip
        simp only [Bool.and_true, Bool.true_and, decide_eq_true_eq, decide_eq_false_iff_not, Bool.and_eq_true, Bool.or_eq_true, Bool.and_eq_false_iff, Bool.or_eq_false_iff, Bool.not_eq_true', Bool.not_eq_false', beq_iff_eq, beq_eq_false_iff_ne, Int.not_lt, Int.not_le] at h38
        have hc1 : ¬ (b = [] ∨ llt (pre p m i) b = true) := by rintro (q | q); (rw [q] at h38; exact h38.1 rfl); (rw [h38.2] at q; cases q)
        refine St.skipg rfl rfl rfl ?_
        refine St.skipg rfl rfl rfl ?_
        refine St.skipg rfl rfl rfl ?_
        refine St.skipg rfl rfl rfl ?_
        refine St.skipg rfl rfl rfl ?_
        refine St.skipg rfl rfl rfl ?_
        refine St.ev _ (Ev.pickf (Opd.mk rfl) rfl (Opd.mk rfl)) rfl ?_
        refine St.nil ?_
        refine St.then_normal ?_
        refine St.condf _ rfl rfl ?_
        refine St.skip ?_
        refine St.in_normal ?_
        refine St.then_normal ?_
        refine St.rg ?_
        refine St.ev _ (Ev.move (Opd.mk rfl)) rfl ?_
        refine St.ev _ (Ev.add (Opd.mk rfl) (Opd.mk rfl) (by omega)) rfl ?_
        refine St.ev _ (Ev.assign (Opd.mk rfl)) rfl ?_
        refine St.nil ?_
        refine St.then_normal ?_
        refine St.againH2 (i + 1, b) w ⟨by show i + 1 + m ≤ _; omega, hrp.stay (fun q => hc1 q.1)⟩ (by show p.length + 1 - (i + 1) < p.length + 1 - i; omega) (by repeat (first | exact Sub.nil | refine Sub.cons (by first | rfl | exact congrArg (fun z => some (iv z)) (by first | omega | (dsimp only; omega)) | exact congrArg (fun z => some (Value.bool z)) (by first | assumption | exact Eq.symm (by assumption))) ?_)) (fun _ hw => hw.sub)
    · skip
      try simp only [Bool.and_true, Bool.true_and, decide_eq_true_eq, decide_eq_false_iff_not, Bool.and_eq_true, Bool.or_eq_true, Bool.and_eq_false_iff, Bool.or_eq_false_iff, Bool.not_eq_true', Bool.not_eq_false', beq_iff_eq, beq_eq_false_iff_ne, Int.not_lt, Int.not_le] at h21
      refine St.exit ?_
      refine St.then_exit ?_
      refine St.then_exit ?_
      refine St.in_hit ?_
      refine St.then_normal ?_
      refine St.seq ?_
      refine St.rg ?_
      refine St.ev _ (Ev.move (Opd.mk rfl)) rfl ?_
      refine St.ev _ (Ev.lensl (Opd.mk rfl) Try.underlying22) rfl ?_
      refine St.ev _ (Ev.gtr (Opd.mk rfl) (Opd.mk rfl)) rfl ?_
      refine St.nil ?_
      refine St.then_normal ?_
      refine St.cond _ rfl (fun h49 => ?_) (fun h49 => ?_)
      · skip
        try simp only [Bool.and_true, Bool.true_and, decide_eq_true_eq, decide_eq_false_iff_not, Bool.and_eq_true, Bool.or_eq_true, Bool.and_eq_false_iff, Bool.or_eq_false_iff, Bool.not_eq_true', Bool.not_eq_false', beq_iff_eq, beq_eq_false_iff_ne, Int.not_lt, Int.not_le] at h49
        have hlt := hrp.found hT1 hN (by omega) (by intro e; rw [e] at h49; exact absurd h49 (by decide))
        have hle := lgOf_eq hlt
        refine St.seq ?_
        refine St.rg ?_
        refine St.ev _ (Ev.move (Opd.mk rfl)) rfl ?_
        refine St.ev _ (Ev.assign (Opd.mk rfl)) rfl ?_
        refine St.nil ?_
        refine St.then_normal ?_
        refine St.rett ?_
        refine St.in_ret ?_
        refine St.then_ret ?_
        refine St.then_ret ?_
        refine St.in_ret ?_
        refine St.then_ret ?_
        refine St.rets [_] [dat (sl intR w b)] Try.results24 ⟨rfl, trivial⟩ ?_ (fun _ hw => hw.sub)
        rw [hle]; rfl
      · skip
        try simp only [Bool.and_true, Bool.true_and, decide_eq_true_eq, decide_eq_false_iff_not, Bool.and_eq_true, Bool.or_eq_true, Bool.and_eq_false_iff, Bool.or_eq_false_iff, Bool.not_eq_true', Bool.not_eq_false', beq_iff_eq, beq_eq_false_iff_ne, Int.not_lt, Int.not_le] at h49
        have hb0 : b = [] := List.eq_nil_of_length_eq_zero (by omega)
        subst hb0
        have hN2 := hrp.less hT1 hN hm0 (by omega)
        refine St.skip ?_
        refine St.in_normal ?_
        refine St.then_normal ?_
        refine St.rg ?_
        refine St.ev _ (Ev.move (Opd.mk rfl)) rfl ?_
        refine St.ev _ (Ev.sub (Opd.mk rfl) (Opd.mk rfl) (by omega)) rfl ?_
        refine St.ev _ (Ev.assign (Opd.mk rfl)) rfl ?_
        refine St.nil ?_
        refine St.then_normal ?_
        refine St.againH (m - 1) ⟨by omega, hN2⟩ (by first | omega | (dsimp only; omega)) (by repeat (first | exact Sub.nil | refine Sub.cons (by first | rfl | exact congrArg (fun z => some (iv z)) (by first | omega | (dsimp only; omega)) | exact congrArg (fun z => some (Value.bool z)) (by first | assumption | exact Eq.symm (by assumption))) ?_)) (fun _ hw => hw.sub)
  · skip
    try simp only [Bool.and_true, Bool.true_and, decide_eq_true_eq, decide_eq_false_iff_not, Bool.and_eq_true, Bool.or_eq_true, Bool.and_eq_false_iff, Bool.or_eq_false_iff, Bool.not_eq_true', Bool.not_eq_false', beq_iff_eq, beq_eq_false_iff_ne, Int.not_lt, Int.not_le] at h12
    obtain rfl : m = 0 := by omega
    have hlt := hN.end
    have hle := lgOf_eq hlt
    refine St.exit ?_
    refine St.then_exit ?_
    refine St.then_exit ?_
    refine St.in_hit ?_
    refine St.then_normal ?_
    refine St.seq ?_
    refine St.rg ?_
    refine St.buildSl (xs := []) (ps := []) rfl (Opds.nil) Try.underlying22 sz3 zv3 rfl rfl (by simp [Value.cells]) rfl rfl (fun b51 => ?_)
    refine St.publish (.slice (some ⟨b51, 0, none⟩) 0 0) intR [] rfl rfl (by intro x hx; cases hx) ?_
    refine St.ev _ (Ev.assign (Opd.mk rfl)) rfl ?_
    refine St.nil ?_
    refine St.then_normal ?_
    refine St.rett ?_
    refine St.rets [_] [dat (sl intR (.slice (some ⟨b51, 0, none⟩) 0 0) [])] Try.results24 ⟨rfl, trivial⟩ ?_ (fun _ hw => hw.sub)
    rw [← hle]; rfl

theorem law9_spec (v0 : Value) (p : List Int) (t : Int) (ht : i64ok t) : FnV Try.prog 9 #[v0, iv t] [sl intR v0 p] (.bool true) := by
  refine FnV.body1 (args := [v0, iv t]) 55 Try.func9 rfl Try.ntmps9 rfl (fun c => ?_)
  refine St.seq ?_
  refine St.wf v0 (fun hwf hlen => ?_)
  refine St.rg ?_
  refine St.ev _ (Ev.assign (Opd.mk rfl)) rfl ?_
  refine St.nil ?_
  refine St.then_normal ?_
  refine St.seq ?_
  refine St.seq ?_
  refine St.rg ?_
  refine St.ev _ (Ev.call (suffixReady_spec) cb11 (Opds.nil)) rfl ?_
  refine St.ev _ (Ev.not (Opd.mk rfl)) rfl ?_
  refine St.nil ?_
  refine St.then_normal ?_
  refine St.condf _ rfl rfl ?_
  refine St.skip ?_
  refine St.then_normal ?_
  refine St.seq ?_
  refine St.seq ?_
  refine St.rg ?_
  refine St.ev _ (Ev.move (Opd.mk rfl)) rfl ?_
  refine St.ev _ (Ev.lensl (Opd.mk rfl) Try.underlying22) rfl ?_
  refine St.ev _ (Ev.gtr (Opd.mk rfl) (Opd.mk rfl)) rfl ?_
  refine St.ev _ (Ev.move (Opd.mk rfl)) rfl ?_
  refine St.gt _ rfl rfl (fun hg => Ev.move (Opd.mk rfl)) rfl ?_
  refine St.gt _ rfl rfl (fun hg => Ev.lensl (Opd.gv rfl hg) Try.underlying22) rfl ?_
  refine St.gt _ rfl rfl (fun hg => Ev.leq (Opd.gv rfl hg) (Opd.mk rfl)) rfl ?_
  refine St.ev _ (Ev.and (Opd.mk rfl) (fun hp => Opd.gv rfl hp)) rfl ?_
  refine St.nil ?_
  refine St.then_normal ?_
  refine St.cond _ rfl (fun h17 => ?_) (fun h17 => ?_)
  · skip
    try simp only [Bool.and_true, Bool.true_and, decide_eq_true_eq, decide_eq_false_iff_not, Bool.and_eq_true, Bool.or_eq_true, Bool.and_eq_false_iff, Bool.or_eq_false_iff, Bool.not_eq_true', Bool.not_eq_false', beq_iff_eq, beq_eq_false_iff_ne, Int.not_lt, Int.not_le] at h17
    refine St.seq ?_
    refine St.rg ?_
    refine St.ev _ (Ev.assign (Opd.mk rfl)) rfl ?_
    refine St.nil ?_
    refine St.then_normal ?_
    refine St.rett ?_
    refine St.then_ret ?_
    refine St.rets [_] [] Try.results9 ⟨rfl, trivial⟩ ?_ (fun _ hw => hw.sub)
    exact be rfl
  · skip
    try simp only [Bool.and_true, Bool.true_and, decide_eq_true_eq, decide_eq_false_iff_not, Bool.and_eq_true, Bool.or_eq_true, Bool.and_eq_false_iff, Bool.or_eq_false_iff, Bool.not_eq_true', Bool.not_eq_false', beq_iff_eq, beq_eq_false_iff_ne, Int.not_lt, Int.not_le] at h17
    refine St.skip ?_
    refine St.then_normal ?_
    refine St.seq ?_
    refine St.rg ?_
    refine St.ev _ (Ev.move (Opd.mk rfl)) rfl ?_
    refine St.ev _ (Ev.move (Opd.mk rfl)) rfl ?_
    refine St.calld (Longest_spec v0 p t) cb23 (Opds.cons (Opd.mk rfl) (Opds.cons (Opd.mk rfl) Opds.nil)) rfl ?_
    rintro v21 _ ⟨u0, rfl, h1, rfl⟩
    refine St.app1 ?_
    refine St.publish u0 intR (lgV p t) rfl rfl (lgV_wf hwf) ?_
    refine St.ev _ (Ev.move (Opd.mk rfl)) rfl ?_
    refine St.ev _ (Ev.extract (Opd.mk rfl) rfl) rfl ?_
    refine St.ev _ (Ev.extract (Opd.mk rfl) rfl) rfl ?_
    refine St.alloc zc25 rfl (fun b6 => ?_)
    refine St.ev _ (Ev.assign (Opd.mk rfl)) rfl ?_
    refine St.storeA (Opd.mk rfl) (Opd.mk rfl) sz25 (by first | simp only [List.length_cons, List.length_nil] | rfl) rfl ?_
    refine St.nil ?_
    refine St.then_normal ?_
    refine St.seq ?_
    refine St.rg ?_
    refine St.ev _ (Ev.move (Opd.mk rfl)) rfl ?_
    refine St.ev _ (Ev.call (SuffixFault_spec v0 p) cb13 (Opds.cons (Opd.mk rfl) Opds.nil)) rfl ?_
    refine St.alloc zc25 rfl (fun b7 => ?_)
    refine St.storeA (Opd.mk rfl) (Opd.mk rfl) sz25 (by first | simp only [List.length_cons, List.length_nil] | rfl) rfl ?_
    refine St.nil ?_
    refine St.then_normal ?_
    refine St.seq ?_
    refine St.seq ?_
    refine St.rg ?_
    refine St.ev _ (Ev.fldb0 (Opd.mk rfl) fo25_0) rfl ?_
    refine St.ev _ (Ev.ldb (Opd.mk rfl) Try.underlying3 trivial (by rfl)) rfl ?_
    refine St.ev _ (Ev.eql (Opd.mk rfl) (Opd.mk rfl)) rfl ?_
    refine St.ev _ (Ev.move (Opd.mk rfl)) rfl ?_
    refine St.gt _ rfl rfl (fun hg => Ev.move (Opd.mk rfl)) rfl ?_
    refine St.gt _ rfl rfl (fun hg => Ev.lss (Opd.gv rfl hg) (Opd.mk rfl)) rfl ?_
    refine St.ev _ (Ev.and (Opd.mk rfl) (fun hp => Opd.gv rfl hp)) rfl ?_
    refine St.nil ?_
    refine St.then_normal ?_
    refine St.cond _ rfl (fun h32 => ?_) (fun h32 => ?_)
    · skip
      try simp only [Bool.and_true, Bool.true_and, decide_eq_true_eq, decide_eq_false_iff_not, Bool.and_eq_true, Bool.or_eq_true, Bool.and_eq_false_iff, Bool.or_eq_false_iff, Bool.not_eq_true', Bool.not_eq_false', beq_iff_eq, beq_eq_false_iff_ne, Int.not_lt, Int.not_le] at h32
      have hlf := lgF_2 h32.1 h32.2
      rw [lgV_f (by rw [hlf]; decide), hlf]
      refine St.rg ?_
      refine St.ev _ (Ev.build (ps := [(0, (Operand.const (Value.int IntKind.i64 3))), (1, (Operand.const (Value.int IntKind.i64 (-2))))]) (Opds.cons (Opd.mk rfl) (Opds.cons (Opd.mk rfl) Opds.nil)) (fun w => bld25_0_1 rfl rfl w)) rfl ?_
      refine St.storeA (Opd.mk rfl) (Opd.mk rfl) sz25 (by first | simp only [List.length_cons, List.length_nil] | rfl) rfl ?_
      refine St.nil ?_
      refine St.then_normal ?_
      refine St.seq ?_
      refine St.seq ?_
      refine St.rg ?_
      refine St.ev _ (Ev.fldb0 (Opd.mk rfl) fo25_0) rfl ?_
      refine St.ev _ (Ev.ldb (Opd.mk rfl) Try.underlying3 trivial (by rfl)) rfl ?_
      refine St.ev _ (Ev.neq (Opd.mk rfl) (Opd.mk rfl)) rfl ?_
      refine St.nil ?_
      refine St.then_normal ?_
      refine St.condt _ rfl rfl ?_
      refine St.seq ?_
      refine St.rg ?_
      refine St.ev _ (Ev.ldbA (Opd.mk rfl) Try.underlying25 trivial (by exact sz25)) rfl ?_
      refine St.ev _ (Ev.ldbA (Opd.mk rfl) Try.underlying25 trivial (by exact sz25)) rfl ?_
      refine St.ev _ (Ev.structeql (Opd.mk rfl) (Opd.mk rfl) Try.eqGuardType25 (fun w => eqf25 _ _ _ _ w)) rfl ?_
      refine St.ev _ (Ev.move (Opd.mk rfl)) rfl ?_
      refine St.gt _ rfl rfl (fun hg => Ev.move (Opd.mk rfl)) rfl ?_
      refine St.gt _ rfl rfl (fun hg => Ev.lensl (Opd.gv rfl hg) Try.underlying22) rfl ?_
      refine St.gt _ rfl rfl (fun hg => Ev.eql (Opd.gv rfl hg) (Opd.mk rfl)) rfl ?_
      refine St.ev _ (Ev.and (Opd.mk rfl) (fun hp => Opd.gv rfl hp)) rfl ?_
      refine St.ev _ (Ev.assign (Opd.mk rfl)) rfl ?_
      refine St.nil ?_
      refine St.then_normal ?_
      refine St.rett ?_
      refine St.then_ret ?_
      refine St.rets [_] [] Try.results9 ⟨rfl, trivial⟩ ?_ (fun _ hw => hw.sub)
      exact be (by simp)
    · skip
      try simp only [Bool.and_true, Bool.true_and, decide_eq_true_eq, decide_eq_false_iff_not, Bool.and_eq_true, Bool.or_eq_true, Bool.and_eq_false_iff, Bool.or_eq_false_iff, Bool.not_eq_true', Bool.not_eq_false', beq_iff_eq, beq_eq_false_iff_ne, Int.not_lt, Int.not_le] at h32
      refine St.skip ?_
      refine St.then_normal ?_
      refine St.seq ?_
      refine St.seq ?_
      refine St.rg ?_
      refine St.ev _ (Ev.fldb0 (Opd.mk rfl) fo25_0) rfl ?_
      refine St.ev _ (Ev.ldb (Opd.mk rfl) Try.underlying3 trivial (by rfl)) rfl ?_
      refine St.ev _ (Ev.neq (Opd.mk rfl) (Opd.mk rfl)) rfl ?_
      refine St.nil ?_
      refine St.then_normal ?_
      refine St.cond _ rfl (fun h36 => ?_) (fun h36 => ?_)
      · skip
        try simp only [Bool.and_true, Bool.true_and, decide_eq_true_eq, decide_eq_false_iff_not, Bool.and_eq_true, Bool.or_eq_true, Bool.and_eq_false_iff, Bool.or_eq_false_iff, Bool.not_eq_true', Bool.not_eq_false', beq_iff_eq, beq_eq_false_iff_ne, Int.not_lt, Int.not_le] at h36
        have hlf := lgF_1 (t := t) h36
        rw [lgV_f (by rw [hlf]; exact h36), hlf]
        refine St.seq ?_
        refine St.rg ?_
        refine St.ev _ (Ev.ldbA (Opd.mk rfl) Try.underlying25 trivial (by exact sz25)) rfl ?_
        refine St.ev _ (Ev.ldbA (Opd.mk rfl) Try.underlying25 trivial (by exact sz25)) rfl ?_
        refine St.ev _ (Ev.structeql (Opd.mk rfl) (Opd.mk rfl) Try.eqGuardType25 (fun w => eqf25 _ _ _ _ w)) rfl ?_
        refine St.ev _ (Ev.move (Opd.mk rfl)) rfl ?_
        refine St.gt _ rfl rfl (fun hg => Ev.move (Opd.mk rfl)) rfl ?_
        refine St.gt _ rfl rfl (fun hg => Ev.lensl (Opd.gv rfl hg) Try.underlying22) rfl ?_
        refine St.gt _ rfl rfl (fun hg => Ev.eql (Opd.gv rfl hg) (Opd.mk rfl)) rfl ?_
        refine St.ev _ (Ev.and (Opd.mk rfl) (fun hp => Opd.gv rfl hp)) rfl ?_
        refine St.ev _ (Ev.assign (Opd.mk rfl)) rfl ?_
        refine St.nil ?_
        refine St.then_normal ?_
        refine St.rett ?_
        refine St.then_ret ?_
        refine St.rets [_] [] Try.results9 ⟨rfl, trivial⟩ ?_ (fun _ hw => hw.sub)
        exact be (by simp)
      · skip
        try simp only [Bool.and_true, Bool.true_and, decide_eq_true_eq, decide_eq_false_iff_not, Bool.and_eq_true, Bool.or_eq_true, Bool.and_eq_false_iff, Bool.or_eq_false_iff, Bool.not_eq_true', Bool.not_eq_false', beq_iff_eq, beq_eq_false_iff_ne, Int.not_lt, Int.not_le] at h36
        have hz : (sFault p).1 = 0 := by omega
        have ht1 : ¬ t < 1 := by omega
        have hlf := lgF_3 hz ht1
        rw [lgV_t (by rw [hlf]), hlf]
        obtain ⟨tm, rfl⟩ := Int.eq_ofNat_of_zero_le (show 0 ≤ t by omega)
        rw [show ((tm : Int)).toNat = tm from rfl]
        refine St.skip ?_
        refine St.then_normal ?_
        refine St.seq ?_
        refine St.rg ?_
        refine St.ev _ (Ev.fldb0 (Opd.mk rfl) fo25_0) rfl ?_
        refine St.ev _ (Ev.ldb (Opd.mk rfl) Try.underlying3 trivial (by rfl)) rfl ?_
        refine St.ev _ (Ev.eql (Opd.mk rfl) (Opd.mk rfl)) rfl ?_
        refine St.known 47 _ true rfl (by decide) ?_
        refine St.ev _ (Ev.move (Opd.mk rfl)) rfl ?_
        refine St.takeg rfl rfl ?_
        refine St.ev _ (Ev.move (Opd.mk rfl)) rfl ?_
        refine St.takeg rfl rfl ?_
        refine St.ev _ (Ev.move (Opd.mk rfl)) rfl ?_
        refine St.takeg rfl rfl ?_
        refine St.ev _ (Ev.move (Opd.mk rfl)) rfl ?_
        refine St.takeg rfl rfl ?_
        refine St.calld (Repeated_spec v0 p (sFault_ok hz).1 tm (by omega)) cb24 (Opds.cons (Opd.mk rfl) (Opds.cons (Opd.mk rfl) Opds.nil)) rfl ?_
        rintro v52 _ rfl
        refine St.app1 ?_
        refine St.takeg rfl rfl ?_
        refine St.ev _ (Ev.call (sameInts_spec u0 v52 (lgOf p tm) (lgOf p tm)) cb15 (Opds.cons (Opd.mk rfl) (Opds.cons (Opd.mk rfl) Opds.nil))) rfl ?_
        refine St.ev _ (Ev.pickt (Opd.mk rfl) rfl (Opd.mk rfl)) rfl ?_
        refine St.ev _ (Ev.assign (Opd.mk rfl)) rfl ?_
        refine St.nil ?_
        refine St.then_normal ?_
        refine St.rett ?_
        refine St.rets [_] [] Try.results9 ⟨rfl, trivial⟩ ?_ (fun _ hw => hw.sub)
        exact be (by simp)

theorem law10_spec (v0 : Value) (p : List Int) (t : Int) (ht : i64ok t) : FnV Try.prog 10 #[v0, iv t] [sl intR v0 p] (.bool true) := by
  refine FnV.body1 (args := [v0, iv t]) 49 Try.func10 rfl Try.ntmps10 rfl (fun c => ?_)
  refine St.seq ?_
  refine St.wf v0 (fun hwf hlen => ?_)
  refine St.rg ?_
  refine St.ev _ (Ev.assign (Opd.mk rfl)) rfl ?_
  refine St.nil ?_
  refine St.then_normal ?_
  refine St.seq ?_
  refine St.seq ?_
  refine St.rg ?_
  refine St.ev _ (Ev.call (suffixReady_spec) cb11 (Opds.nil)) rfl ?_
  refine St.ev _ (Ev.not (Opd.mk rfl)) rfl ?_
  refine St.nil ?_
  refine St.then_normal ?_
  refine St.condf _ rfl rfl ?_
  refine St.skip ?_
  refine St.then_normal ?_
  refine St.seq ?_
  refine St.rg ?_
  refine St.ev _ (Ev.move (Opd.mk rfl)) rfl ?_
  refine St.ev _ (Ev.move (Opd.mk rfl)) rfl ?_
  refine St.calld (Longest_spec v0 p t) cb23 (Opds.cons (Opd.mk rfl) (Opds.cons (Opd.mk rfl) Opds.nil)) rfl ?_
  rintro v14 _ ⟨u0, rfl, h1, rfl⟩
  refine St.app1 ?_
  refine St.publish u0 intR (lgV p t) rfl rfl (lgV_wf hwf) ?_
  refine St.ev _ (Ev.move (Opd.mk rfl)) rfl ?_
  refine St.ev _ (Ev.extract (Opd.mk rfl) rfl) rfl ?_
  refine St.ev _ (Ev.extract (Opd.mk rfl) rfl) rfl ?_
  refine St.alloc zc25 rfl (fun b6 => ?_)
  refine St.ev _ (Ev.assign (Opd.mk rfl)) rfl ?_
  refine St.storeA (Opd.mk rfl) (Opd.mk rfl) sz25 (by first | simp only [List.length_cons, List.length_nil] | rfl) rfl ?_
  refine St.nil ?_
  refine St.then_normal ?_
  refine St.seq ?_
  refine St.seq ?_
  refine St.rg ?_
  refine St.ev _ (Ev.fldb0 (Opd.mk rfl) fo25_0) rfl ?_
  refine St.ev _ (Ev.ldb (Opd.mk rfl) Try.underlying3 trivial (by rfl)) rfl ?_
  refine St.ev _ (Ev.neq (Opd.mk rfl) (Opd.mk rfl)) rfl ?_
  refine St.ev _ (Ev.move (Opd.mk rfl)) rfl ?_
  refine St.gf _ rfl rfl (fun hg => Ev.move (Opd.mk rfl)) rfl ?_
  refine St.gf _ rfl rfl (fun hg => Ev.lensl (Opd.gv rfl hg) Try.underlying22) rfl ?_
  refine St.gf _ rfl rfl (fun hg => Ev.eql (Opd.gv rfl hg) (Opd.mk rfl)) rfl ?_
  refine St.ev _ (Ev.or (Opd.mk rfl) (fun hp => Opd.gv rfl hp)) rfl ?_
  refine St.nil ?_
  refine St.then_normal ?_
  refine St.cond _ rfl (fun h24 => ?_) (fun h24 => ?_)
  · skip
    try simp only [Bool.and_true, Bool.true_and, decide_eq_true_eq, decide_eq_false_iff_not, Bool.and_eq_true, Bool.or_eq_true, Bool.and_eq_false_iff, Bool.or_eq_false_iff, Bool.not_eq_true', Bool.not_eq_false', beq_iff_eq, beq_eq_false_iff_ne, Int.not_lt, Int.not_le] at h24
    refine St.seq ?_
    refine St.rg ?_
    refine St.ev _ (Ev.assign (Opd.mk rfl)) rfl ?_
    refine St.nil ?_
    refine St.then_normal ?_
    refine St.rett ?_
    refine St.then_ret ?_
    refine St.rets [_] [] Try.results10 ⟨rfl, trivial⟩ ?_ (fun _ hw => hw.sub)
    exact be rfl
  · skip
    try simp only [Bool.and_true, Bool.true_and, decide_eq_true_eq, decide_eq_false_iff_not, Bool.and_eq_true, Bool.or_eq_true, Bool.and_eq_false_iff, Bool.or_eq_false_iff, Bool.not_eq_true', Bool.not_eq_false', beq_iff_eq, beq_eq_false_iff_ne, Int.not_lt, Int.not_le] at h24
    have hlz : (lgF p t).1 = 0 := by omega
    have hln : ¬ (lgV p t).length = 0 := by omega
    obtain ⟨hz, ht1⟩ := lgF_ok hlz
    have hok := sFault_ok hz
    obtain ⟨tm, rfl⟩ := Int.eq_ofNat_of_zero_le (show 0 ≤ t by omega)
    rw [lgV_t hlz, show ((tm : Int)).toNat = tm from rfl] at hln ⊢
    have hlx := lgst_ex (p := p) (t := tm) hok.1 (by omega)
    have hle := hlx.le (by omega)
    have hoc := hlx.occ_ge (by intro e; rw [e] at hln; exact hln rfl)
    refine St.skip ?_
    refine St.then_normal ?_
    refine St.seq ?_
    refine St.rg ?_
    refine St.ev _ (Ev.move (Opd.mk rfl)) rfl ?_
    refine St.calld (Build_spec v0 p) cb12 (Opds.cons (Opd.mk rfl) Opds.nil) rfl ?_
    rintro v27 _ ⟨y0, rfl, h2, rfl⟩
    refine St.app1 ?_
    refine St.publish y0 intR (ints (bld p)) rfl (ints_length _).symm bld_wf ?_
    rw [bld_t hz, hok.2]
    refine St.ev _ (Ev.move (Opd.mk rfl)) rfl ?_
    refine St.ev _ (Ev.extract (Opd.mk rfl) rfl) rfl ?_
    refine St.ev _ (Ev.extract (Opd.mk rfl) rfl) rfl ?_
    refine St.ev _ (Ev.assign (Opd.mk rfl)) rfl ?_
    refine St.storeA (Opd.mk rfl) (Opd.mk rfl) sz25 (by first | simp only [List.length_cons, List.length_nil] | rfl) rfl ?_
    refine St.nil ?_
    refine St.then_normal ?_
    refine St.seq ?_
    refine St.seq ?_
    refine St.rg ?_
    refine St.ev _ (Ev.fldb0 (Opd.mk rfl) fo25_0) rfl ?_
    refine St.ev _ (Ev.ldb (Opd.mk rfl) Try.underlying3 trivial (by rfl)) rfl ?_
    refine St.ev _ (Ev.neq (Opd.mk rfl) (Opd.mk rfl)) rfl ?_
    refine St.nil ?_
    refine St.then_normal ?_
    refine St.condf _ rfl rfl ?_
    refine St.skip ?_
    refine St.then_normal ?_
    refine St.seq ?_
    refine St.rg ?_
    refine St.ev _ (Ev.move (Opd.mk rfl)) rfl ?_
    refine St.ev _ (Ev.move (Opd.mk rfl)) rfl ?_
    refine St.ev _ (Ev.move (Opd.mk rfl)) rfl ?_
    refine St.calld (Find_ok v0 y0 u0 p (lgOf p tm) hz (by omega)) cb17 (Opds.cons (Opd.mk rfl) (Opds.cons (Opd.mk rfl) (Opds.cons (Opd.mk rfl) Opds.nil))) rfl ?_
    rintro v37 _ ⟨z0, rfl, h3, rfl⟩
    refine St.app1 ?_
    refine St.publish z0 intR (ints (placesOf p (lgOf p tm))) rfl (ints_length _).symm (places_wf hok.1) ?_
    have hpo : (ints (placesOf p (lgOf p tm))).length = occ p (lgOf p tm) := ints_length _
    refine St.ev _ (Ev.move (Opd.mk rfl)) rfl ?_
    refine St.ev _ (Ev.extract (Opd.mk rfl) rfl) rfl ?_
    refine St.ev _ (Ev.extract (Opd.mk rfl) rfl) rfl ?_
    refine St.ev _ (Ev.assign (Opd.mk rfl)) rfl ?_
    refine St.storeA (Opd.mk rfl) (Opd.mk rfl) sz25 (by first | simp only [List.length_cons, List.length_nil] | rfl) rfl ?_
    refine St.nil ?_
    refine St.then_normal ?_
    refine St.seq ?_
    refine St.rg ?_
    refine St.ev _ (Ev.fldb0 (Opd.mk rfl) fo25_0) rfl ?_
    refine St.ev _ (Ev.ldb (Opd.mk rfl) Try.underlying3 trivial (by rfl)) rfl ?_
    refine St.ev _ (Ev.eql (Opd.mk rfl) (Opd.mk rfl)) rfl ?_
    refine St.ev _ (Ev.move (Opd.mk rfl)) rfl ?_
    refine St.gt _ rfl rfl (fun hg => Ev.move (Opd.mk rfl)) rfl ?_
    refine St.gt _ rfl rfl (fun hg => Ev.lensl (Opd.gv rfl hg) Try.underlying22) rfl ?_
    refine St.gt _ rfl rfl (fun hg => Ev.move (Opd.mk rfl)) rfl ?_
    refine St.gt _ rfl rfl (fun hg => Ev.geq (Opd.gv rfl hg) (Opd.gv rfl hg)) rfl ?_
    refine St.ev _ (Ev.and (Opd.mk rfl) (fun hp => Opd.gv rfl hp)) rfl ?_
    refine St.ev _ (Ev.assign (Opd.mk rfl)) rfl ?_
    refine St.nil ?_
    refine St.then_normal ?_
    refine St.rett ?_
    refine St.rets [_] [] Try.results10 ⟨rfl, trivial⟩ ?_ (fun _ hw => hw.sub)
    exact be (by rw [hpo]; simp; omega)

end Go.Proofs.Ytblmnncmkibhnaa
