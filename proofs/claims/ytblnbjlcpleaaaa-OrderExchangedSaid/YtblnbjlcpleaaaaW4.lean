/-
  The walk over all orders that break no rule: it hands each to a function value, and stops where that says so.
  Conditions: the rules are of the four kinds; there are few elements.
-/
import Derived.Test.YtblnbjlcpleaaaaW3
import Derived.Test.YtblnbjlcpleaaaaJ13
import Derived.Test.YtblnbjlcpleaaaaOrdR
set_option linter.unusedSimpArgs false
set_option linter.unusedVariables false
namespace Go.Proofs.Ytblnbjlcpleaaaa
open Go Go.J


theorem rows_cut1 (l : List Int) (x : Int) : (rows intR (l ++ [x])).take (l.length * 1) = rows intR l := by
  rw [rows_snoc, List.take_append_of_le_length (by rw [rows_length]; exact Nat.le_refl _), List.take_of_length_le (by rw [rows_length]; exact Nat.le_refl _)]
/-- what a callee that takes one order at a time must do -/
def Takes (fy : FuncId) (cy : List Value) {σ : Type} (Sp : σ → List Ent → Prop) (yb : σ → List Int → Bool) (yn : σ → List Int → σ) (Iv : Nat → σ → Prop) (n : Nat) (D : Dat) : Prop :=
  ∀ s L v l, Iv 1 s → Sp s L → l.length = n → (∀ i ∈ l, 0 ≤ i ∧ i < (n : Int)) → FnH Try.prog fy ([v] ++ cy).toArray ([sl intR v l, D].map dat ++ L) fun u H' => u = .bool (yb s l) ∧ Sp (yn s l) H'

theorem all1_spec (rules : List Prec) (hr : ∀ p ∈ rules, kindOk p) (ks : List Str) (hks : ks.length ≤ 7) {σ : Type} (Sp : σ → List Ent → Prop) (hsol : ∀ s L, Sp s L → Solid L) (yb : σ → List Int → Bool) (yn : σ → List Int → σ) (fy : FuncId) (cy : List Value) (hcy : Callable Try.prog fy) (Iv : Nat → σ → Prop) (hmono : ∀ c d s, d ≤ c → Iv c s → Iv d s) (hiv : ∀ c s l, Iv (c + 1) s → yb s l = true → Iv c (yn s l)) (D : Dat) (hy : Takes fy cy Sp yb yn Iv ks.length D)
    (bl bk br bY bw : Nat) (vr vk : Value) : ∀ (m : Nat) (l : List Int) (hm : l.length + m = ks.length) (hl : ∀ i ∈ l, 0 ≤ i ∧ i < ks.length) (vl : Value) (s : σ) (L : List Ent) (bd : Nat) (hI : Iv (bd + leafN ks.length m) s) (hL : Sp s L),
    FnH Try.prog 45 ([.pointer (some ⟨bl, 0, none⟩), .pointer (some ⟨bk, 0, none⟩), .pointer (some ⟨br, 0, none⟩), .pointer (some ⟨bY, 0, none⟩), .pointer (some ⟨bw, 0, none⟩)] : List Value).toArray (([sl precR vr rules, sl strR vk ks, cel bk vk, cel br vr, cel bY (.func (.func fy) #[] cy.toArray), cel bw (.func (.func 45) #[] ([.pointer (some ⟨bl, 0, none⟩), .pointer (some ⟨bk, 0, none⟩), .pointer (some ⟨br, 0, none⟩), .pointer (some ⟨bY, 0, none⟩), .pointer (some ⟨bw, 0, none⟩)] : List Value).toArray), D] : List Dat).map dat ++ ((blk bl (.cells #[vl] 24 (0, 0)) :: row vl 3 1 l.length (rows intR l) :: L))) (fun v H' => v = .bool (walkF rules ks yb yn m l s).1 ∧ ∃ vl' l' L', ((walkF rules ks yb yn m l s).1 = true → l' = l) ∧ H' = (blk bl (.cells #[vl'] 24 (0, 0)) :: row vl' 3 1 l'.length (rows intR l') :: L') ∧ Sp (walkF rules ks yb yn m l s).2 L') := by
  intro m
  induction m using Nat.strongRecOn
  rename_i m ih
  intro l hm hl vl s L bd hI hL
  refine FnH.body (args := [.pointer (some ⟨bl, 0, none⟩), .pointer (some ⟨bk, 0, none⟩), .pointer (some ⟨br, 0, none⟩), .pointer (some ⟨bY, 0, none⟩), .pointer (some ⟨bw, 0, none⟩)]) 50 Try.func45 rfl Try.ntmps45 rfl (fun c => ?_)
  refine St.seq ?_
  refine St.appl ?_
  refine St.wf vk (fun hwf hlen => ?_)
  refine St.rg ?_
  refine St.ev _ (Ev.assign (Opd.mk rfl)) rfl ?_
  refine St.nil ?_
  refine St.then_normal ?_
  refine St.seq ?_
  refine St.seq ?_
  refine St.rg ?_
  refine St.ev _ (Ev.ldb (Opd.mk rfl) Try.underlying24 trivial (by rfl)) rfl ?_
  refine St.ev _ (Ev.lenrow (Opd.mk rfl) Try.underlying24) rfl ?_
  refine St.ev _ (Ev.ldcel (Opd.mk rfl) Try.underlying23 trivial) rfl ?_
  refine St.ev _ (Ev.lensl (Opd.mk rfl) Try.underlying23) rfl ?_
  refine St.ev _ (Ev.eql (Opd.mk rfl) (Opd.mk rfl)) rfl ?_
  refine St.nil ?_
  refine St.then_normal ?_
  refine St.cond _ rfl (fun h11 => ?_) (fun h11 => ?_)
  · skip
    try simp only [Bool.and_true, Bool.true_and, decide_eq_true_eq, decide_eq_false_iff_not, Bool.and_eq_true, Bool.or_eq_true, Bool.and_eq_false_iff, Bool.or_eq_false_iff, Bool.not_eq_true', Bool.not_eq_false', beq_iff_eq, beq_eq_false_iff_ne, Int.not_lt, Int.not_le] at h11
    obtain rfl : m = 0 := by omega
    refine St.seq ?_
    refine St.rg ?_
    refine St.ev _ (Ev.ldcel (Opd.mk rfl) Try.underlying22 trivial) rfl ?_
    refine St.ev _ (Ev.ldcel (Opd.mk rfl) Try.underlying23 trivial) rfl ?_
    refine St.ev _ (Ev.ldb (Opd.mk rfl) Try.underlying24 trivial (by rfl)) rfl ?_
    refine St.ev _ (Ev.callL (broken_spec vr vk vl rules ks l hr hl (by omega)) cb26 (Opds.cons (Opd.mk rfl) (Opds.cons (Opd.mk rfl) (Opds.cons (Opd.mk rfl) Opds.nil))) (Lent.dat (Lent.dat (Lent.row Lent.nil rfl rfl rfl (fun x hx => by have := hl x hx; exact ⟨by omega, by omega⟩))))) rfl ?_
    refine St.ev _ (Ev.geq (Opd.mk rfl) (Opd.mk rfl)) rfl ?_
    refine St.ev _ (Ev.move (Opd.mk rfl)) rfl ?_
    refine St.split 17 _ rfl (fun hb => ?_) (fun hb => ?_)
    · skip
      refine St.skipg rfl rfl rfl ?_
      refine St.skipg rfl rfl rfl ?_
      refine St.skipg rfl rfl rfl ?_
      refine St.ev _ (Ev.pickt (Opd.mk rfl) rfl (Opd.mk rfl)) rfl ?_
      refine St.ev _ (Ev.assign (Opd.mk rfl)) rfl ?_
      refine St.nil ?_
      refine St.then_normal ?_
      refine St.rett ?_
      refine St.then_ret ?_
      refine St.rets [_] (blk bl (.cells #[vl] 24 (0, 0)) :: row vl 3 1 l.length (rows intR l) :: L) Try.results45 ⟨rfl, trivial⟩ ?_ (fun _ hw => hw.sub)
      have hb : 0 ≤ brokenBy rules (rowOf ks l) := by simpa using hb
      have e : walkF rules ks yb yn 0 l s = (true, s) := by simp only [walkF, if_pos hb]
      rw [e]; exact ⟨rfl, vl, l, L, fun _ => rfl, rfl, hL⟩
    · skip
      refine St.takeg rfl rfl ?_
      refine St.ev _ (Ev.ldcel (Opd.mk rfl) Try.underlying58 trivial) rfl ?_
      refine St.takeg rfl rfl ?_
      refine St.ev _ (Ev.ldb (Opd.mk rfl) Try.underlying24 trivial (by rfl)) rfl ?_
      refine St.takeg rfl rfl ?_
      refine St.callcO  (ds := [sl intR vl l, D]) (L := L) (R := _) (hy s L vl l (hmono _ _ _ (show 1 ≤ bd + leafN ks.length 0 from Nat.le_add_left 1 bd) hI) hL (by omega) hl) hcy (Opd.mk rfl) (Opds.cons (Opd.mk rfl) Opds.nil) (LentO.row (LentO.dat LentO.nil) rfl rfl rfl (fun x hx => by have := hl x hx; exact ⟨by omega, by omega⟩)) (hsol s L hL) (fun u H' h => hsol _ _ h.2) rfl ?_
      rintro _ H1 ⟨rfl, hL1⟩
      refine St.appr ?_
      refine St.ev _ (Ev.pickf (Opd.mk rfl) rfl (Opd.mk rfl)) rfl ?_
      refine St.ev _ (Ev.assign (Opd.mk rfl)) rfl ?_
      refine St.nil ?_
      refine St.then_normal ?_
      refine St.rett ?_
      refine St.then_ret ?_
      refine St.rets [_] (blk bl (.cells #[vl] 24 (0, 0)) :: row vl 3 1 l.length (rows intR l) :: H1) Try.results45 ⟨rfl, trivial⟩ ?_ (fun _ hw => hw.sub)
      have hb : ¬ 0 ≤ brokenBy rules (rowOf ks l) := by simpa using hb
      have e : walkF rules ks yb yn 0 l s = (yb s l, yn s l) := by simp only [walkF, if_neg hb]
      rw [e]; exact ⟨rfl, vl, l, H1, fun _ => rfl, rfl, hL1⟩
  · skip
    try simp only [Bool.and_true, Bool.true_and, decide_eq_true_eq, decide_eq_false_iff_not, Bool.and_eq_true, Bool.or_eq_true, Bool.and_eq_false_iff, Bool.or_eq_false_iff, Bool.not_eq_true', Bool.not_eq_false', beq_iff_eq, beq_eq_false_iff_ne, Int.not_lt, Int.not_le] at h11
    obtain ⟨m, rfl⟩ : ∃ m', m = m' + 1 := ⟨m - 1, by omega⟩
    have hwk : walkF rules ks yb yn (m + 1) l s = loopW rules ks (walkF rules ks yb yn m) l ((List.range ks.length).drop 0) s := by rw [List.drop_zero]; rfl
    refine St.skip ?_
    refine St.then_normal ?_
    refine St.seq ?_
    refine St.seq ?_
    refine St.rg ?_
    refine St.ev _ (Ev.ldcel (Opd.mk rfl) Try.underlying23 trivial) rfl ?_
    refine St.ev _ (Ev.lensl (Opd.mk rfl) Try.underlying23) rfl ?_
    refine St.ev _ (Ev.move (Opd.mk rfl)) rfl ?_
    refine St.nil ?_
    refine St.then_normal ?_
    refine St.block ?_
    refine St.loopH2 (ι := Nat × σ) (κ := Value × List Ent) (fun q z T => (24, iv q.1) :: T) (fun q z => dat (sl precR vr rules) :: dat (sl strR vk ks) :: dat (cel bk vk) :: dat (cel br vr) :: dat (cel bY (.func (.func fy) #[] cy.toArray)) :: dat (cel bw (.func (.func 45) #[] ([.pointer (some ⟨bl, 0, none⟩), .pointer (some ⟨bk, 0, none⟩), .pointer (some ⟨br, 0, none⟩), .pointer (some ⟨bY, 0, none⟩), .pointer (some ⟨bw, 0, none⟩)] : List Value).toArray)) :: dat D :: (blk bl (.cells #[z.1] 24 (0, 0)) :: row z.1 3 1 l.length (rows intR l) :: z.2)) (fun q z => q.1 ≤ ks.length ∧ Iv (bd + (ks.length - q.1) * leafN ks.length m) q.2 ∧ Sp q.2 z.2 ∧ walkF rules ks yb yn (m + 1) l s = loopW rules ks (walkF rules ks yb yn m) l ((List.range ks.length).drop q.1) q.2) (fun q z => ks.length - q.1) (0, s) (vl, L) (Keep.cons 0 rfl (Keep.cons 1 rfl (Keep.cons 2 rfl (Keep.cons 4 rfl (Keep.cons 23 rfl Keep.nil))))) ⟨Nat.zero_le _, hI, hL, hwk⟩ (by repeat (first | exact Sub.nil | refine Sub.cons (by first | rfl | exact congrArg (fun z => some (iv z)) (by first | omega | (dsimp only; omega)) | exact congrArg (fun z => some (Value.bool z)) (by first | assumption | exact Eq.symm (by assumption))) ?_)) (fun _ hw => hw.sub) ?_
    rintro ⟨k, s1⟩ ⟨v1, L1⟩ ⟨hk, hI1, hL1, hwk1⟩
    dsimp only at hk hI1 hL1 hwk1 ⊢
    refine St.seq ?_
    refine St.rg ?_
    refine St.ev _ (Ev.lss (Opd.mk rfl) (Opd.mk rfl)) rfl ?_
    refine St.nil ?_
    refine St.then_normal ?_
    refine St.seq ?_
    refine St.cond _ rfl (fun h25 => ?_) (fun h25 => ?_)
    · skip
      try simp only [Bool.and_true, Bool.true_and, decide_eq_true_eq, decide_eq_false_iff_not, Bool.and_eq_true, Bool.or_eq_true, Bool.and_eq_false_iff, Bool.or_eq_false_iff, Bool.not_eq_true', Bool.not_eq_false', beq_iff_eq, beq_eq_false_iff_ne, Int.not_lt, Int.not_le] at h25
      have h25 : k < ks.length := by omega
      have hIs : Iv ((bd + (ks.length - (k + 1)) * leafN ks.length m) + leafN ks.length m) s1 := by rw [show ks.length - k = (ks.length - (k + 1)) + 1 by omega, Nat.add_mul, Nat.one_mul, ← Nat.add_assoc] at hI1; exact hI1
      have hIk := hmono _ _ _ (Nat.le_add_right (bd + (ks.length - (k + 1)) * leafN ks.length m) (leafN ks.length m)) hIs
      refine St.skip ?_
      refine St.then_normal ?_
      refine St.seq ?_
      refine St.block ?_
      refine St.seq ?_
      refine St.rg ?_
      refine St.ev _ (Ev.move (Opd.mk rfl)) rfl ?_
      refine St.ev _ (Ev.assign (Opd.mk rfl)) rfl ?_
      refine St.nil ?_
      refine St.then_normal ?_
      refine St.seq ?_
      refine St.seq ?_
      refine St.rg ?_
      refine St.ev _ (Ev.ldb (Opd.mk rfl) Try.underlying24 trivial (by rfl)) rfl ?_
      refine St.ev _ (Ev.move (Opd.mk rfl)) rfl ?_
      refine St.ev _ (Ev.callL (ContainsI_spec v1 l k) cb25 (Opds.cons (Opd.mk rfl) (Opds.cons (Opd.mk rfl) Opds.nil)) (Lent.row Lent.nil rfl rfl rfl (fun x hx => by have := hl x hx; exact ⟨by omega, by omega⟩))) rfl ?_
      refine St.nil ?_
      refine St.then_normal ?_
      refine St.cond _ rfl (fun h29 => ?_) (fun h29 => ?_)
      · skip
        skip
        refine St.exit ?_
        refine St.then_exit ?_
        refine St.in_hit ?_
        refine St.then_normal ?_
        refine St.rg ?_
        refine St.ev _ (Ev.add (Opd.mk rfl) (Opd.mk rfl) (by omega)) rfl ?_
        refine St.ev _ (Ev.move (Opd.mk rfl)) rfl ?_
        refine St.nil ?_
        refine St.then_normal ?_
        refine St.againH2 (k + 1, s1) (v1, L1) ⟨by dsimp only; omega, hIk, hL1, hwk1.trans (loopW_skip rules ks h25 (.inl h29))⟩ (by dsimp only; omega) (by dsimp only; repeat (first | exact Sub.nil | refine Sub.cons (by first | rfl | exact congrArg (fun z => some (iv z)) (by first | omega | (dsimp only; omega)) | exact congrArg (fun z => some (Value.bool z)) (by first | assumption | exact Eq.symm (by assumption))) ?_)) (fun _ hw => hw.sub)
      · skip
        skip
        refine St.skip ?_
        refine St.then_normal ?_
        refine St.seq ?_
        have hl2 : ∀ i ∈ l ++ [(k : Int)], 0 ≤ i ∧ i < ks.length := by
          intro i hi
          rcases List.mem_append.1 hi with hi | hi
          · exact hl i hi
          · obtain rfl := List.mem_singleton.1 hi; omega
        have hn2 : (l ++ [(k : Int)]).length = l.length + 1 := by simp
        refine St.rg ?_
        refine St.ev _ (Ev.ldb (Opd.mk rfl) Try.underlying24 trivial (by rfl)) rfl ?_
        refine St.ev _ (Ev.move (Opd.mk rfl)) rfl ?_
        refine St.buildSl (xs := [(Operand.tmp 31)]) (ps := [(0, (Operand.tmp 31))]) rfl (Opds.cons (Opd.mk rfl) Opds.nil) Try.underlying24 sz3 zv3 rfl rfl (by simp [Value.cells]) rfl rfl (fun b32 => ?_)
        refine St.appendRow (Opd.mk rfl) (Opd.mk rfl) Try.underlying24 sz3 zv3 by3 (by simp [Value.oneCell', Value.cells]) (by omega) (by omega) rfl rfl rfl rfl (fun v33 hv33 => ?_)
        refine St.rowOne v33 (fun ho33 _ => ?_)
        refine St.rowEqN v33 hn2.symm (show _ = rows intR (l ++ [(k : Int)]) by rw [rows_snoc]; rfl) ?_
        refine St.store1 (Opd.mk rfl) (Opd.mk rfl) sz24 ho33 (by rfl) ?_
        refine St.nil ?_
        refine St.then_normal ?_
        refine St.seq ?_
        refine St.seq ?_
        refine St.rg ?_
        refine St.ev _ (Ev.ldcel (Opd.mk rfl) Try.underlying22 trivial) rfl ?_
        refine St.ev _ (Ev.ldcel (Opd.mk rfl) Try.underlying23 trivial) rfl ?_
        refine St.ev _ (Ev.ldb (Opd.mk rfl) Try.underlying24 trivial (by rfl)) rfl ?_
        refine St.ev _ (Ev.callL (dead_spec vr vk v33 rules ks (l ++ [(k : Int)]) hl2 (by omega)) cb46 (Opds.cons (Opd.mk rfl) (Opds.cons (Opd.mk rfl) (Opds.cons (Opd.mk rfl) Opds.nil))) (Lent.dat (Lent.dat (Lent.row Lent.nil rfl rfl rfl (fun x hx => by have := hl2 x hx; exact ⟨by omega, by omega⟩))))) rfl ?_
        refine St.ev _ (Ev.not (Opd.mk rfl)) rfl ?_
        refine St.ev _ (Ev.move (Opd.mk rfl)) rfl ?_
        refine St.split 39 _ rfl (fun hd => ?_) (fun hd => ?_)
        · skip
          refine St.takeg rfl rfl ?_
          refine St.ev _ (Ev.ldcel (Opd.mk rfl) Try.underlying25 trivial) rfl ?_
          refine St.takeg rfl rfl ?_
          refine St.callcO (vs := []) (caps := [.pointer (some ⟨bl, 0, none⟩), .pointer (some ⟨bk, 0, none⟩), .pointer (some ⟨br, 0, none⟩), .pointer (some ⟨bY, 0, none⟩), .pointer (some ⟨bw, 0, none⟩)]) (ds := [sl precR vr rules, sl strR vk ks, cel bk vk, cel br vr, cel bY (.func (.func fy) #[] cy.toArray), cel bw (.func (.func 45) #[] ([.pointer (some ⟨bl, 0, none⟩), .pointer (some ⟨bk, 0, none⟩), .pointer (some ⟨br, 0, none⟩), .pointer (some ⟨bY, 0, none⟩), .pointer (some ⟨bw, 0, none⟩)] : List Value).toArray), D]) (L := (blk bl (.cells #[v33] 24 (0, 0)) :: row v33 3 1 (l ++ [(k : Int)]).length (rows intR (l ++ [(k : Int)])) :: L1)) (R := _) (ih m (by omega) (l ++ [(k : Int)]) (by omega) hl2 v33 s1 L1 _ hIs hL1) cb45 (Opd.mk rfl) (Opds.nil) (LentO.alld) (Solid.blk (Solid.row (hsol _ _ hL1))) (fun u H' h => by obtain ⟨_, v', l', L', _, rfl, h2⟩ := h; exact Solid.blk (Solid.row (hsol _ _ h2))) rfl ?_
          rintro _ H1 ⟨rfl, v2, l2, L2, hq2, rfl, hL2⟩
          refine St.appr ?_
          refine St.takeg rfl rfl ?_
          refine St.ev _ (Ev.not (Opd.mk rfl)) rfl ?_
          refine St.ev _ (Ev.pickt (Opd.mk rfl) rfl (Opd.mk rfl)) rfl ?_
          refine St.nil ?_
          refine St.then_normal ?_
          refine St.cond _ rfl (fun h43 => ?_) (fun h43 => ?_)
          · skip
            skip
            refine St.seq ?_
            refine St.rg ?_
            refine St.ev _ (Ev.assign (Opd.mk rfl)) rfl ?_
            refine St.nil ?_
            refine St.then_normal ?_
            refine St.rett ?_
            refine St.then_ret ?_
            refine St.in_ret ?_
            refine St.then_ret ?_
            refine St.then_ret ?_
            refine St.in_ret ?_
            refine St.then_ret ?_
            refine St.rets [_] (blk bl (.cells #[v2] 24 (0, 0)) :: row v2 3 1 l2.length (rows intR l2) :: L2) Try.results45 ⟨rfl, trivial⟩ ?_ (fun _ hw => hw.sub)
            have e1 := loopW_out rules ks (rec := walkF rules ks yb yn m) (s := s1) h25 h29 (by simpa using hd) (by simpa using h43)
            rw [hwk1, e1]; exact ⟨rfl, v2, l2, L2, (fun h => by cases h), rfl, hL2⟩
          · skip
            skip
            obtain rfl := hq2 (by simpa using h43)
            refine St.skip ?_
            refine St.then_normal ?_
            refine St.rg ?_
            refine St.ev _ (Ev.ldb (Opd.mk rfl) Try.underlying24 trivial (by rfl)) rfl ?_
            refine St.ev _ (Ev.ldb (Opd.mk rfl) Try.underlying24 trivial (by rfl)) rfl ?_
            refine St.ev _ (Ev.lenrow (Opd.mk rfl) Try.underlying24) rfl ?_
            refine St.ev _ (Ev.sub (Opd.mk rfl) (Opd.mk rfl) (by omega)) rfl ?_
            refine St.ev _ (Ev.slicerow_h (h := l.length) (Opd.mk rfl) (Opd.mk rfl) Try.underlying24 sz3 (by omega) (by omega)) rfl ?_
            refine St.rowCut v2 l.length (by omega) ?_
            refine St.rowOne (slv v2 1 0 l.length) (fun ho48 _ => ?_)
            refine St.rowEq (slv v2 1 0 l.length) (show _ = rows intR l from rows_cut1 _ _) ?_
            refine St.store1 (Opd.mk rfl) (Opd.mk rfl) sz24 ho48 (by rfl) ?_
            refine St.nil ?_
            refine St.in_normal ?_
            refine St.then_normal ?_
            refine St.rg ?_
            refine St.ev _ (Ev.add (Opd.mk rfl) (Opd.mk rfl) (by omega)) rfl ?_
            refine St.ev _ (Ev.move (Opd.mk rfl)) rfl ?_
            refine St.nil ?_
            refine St.then_normal ?_
            refine St.againH2 (k + 1, (walkF rules ks yb yn m (l ++ [(k : Int)]) s1).2) (slv v2 1 0 l.length, L2) ⟨by dsimp only; omega, walkF_iv rules ks yb yn Iv hmono hiv _ _ _ _ hIs (by simpa using h43), hL2, hwk1.trans (loopW_on rules ks h25 h29 (by simpa using hd) (by simpa using h43))⟩ (by dsimp only; omega) (by dsimp only; repeat (first | exact Sub.nil | refine Sub.cons (by first | rfl | exact congrArg (fun z => some (iv z)) (by first | omega | (dsimp only; omega)) | exact congrArg (fun z => some (Value.bool z)) (by first | assumption | exact Eq.symm (by assumption))) ?_)) (fun _ hw => hw.sub)
        · skip
          refine St.skipg rfl rfl rfl ?_
          refine St.skipg rfl rfl rfl ?_
          refine St.skipg rfl rfl rfl ?_
          refine St.ev _ (Ev.pickf (Opd.mk rfl) rfl (Opd.mk rfl)) rfl ?_
          refine St.nil ?_
          refine St.then_normal ?_
          refine St.condf _ rfl rfl ?_
          refine St.skip ?_
          refine St.then_normal ?_
          refine St.rg ?_
          refine St.ev _ (Ev.ldb (Opd.mk rfl) Try.underlying24 trivial (by rfl)) rfl ?_
          refine St.ev _ (Ev.ldb (Opd.mk rfl) Try.underlying24 trivial (by rfl)) rfl ?_
          refine St.ev _ (Ev.lenrow (Opd.mk rfl) Try.underlying24) rfl ?_
          refine St.ev _ (Ev.sub (Opd.mk rfl) (Opd.mk rfl) (by omega)) rfl ?_
          refine St.ev _ (Ev.slicerow_h (h := l.length) (Opd.mk rfl) (Opd.mk rfl) Try.underlying24 sz3 (by omega) (by omega)) rfl ?_
          refine St.rowCut v33 l.length (by omega) ?_
          refine St.rowOne (slv v33 1 0 l.length) (fun ho48 _ => ?_)
          refine St.rowEq (slv v33 1 0 l.length) (show _ = rows intR l from rows_cut1 _ _) ?_
          refine St.store1 (Opd.mk rfl) (Opd.mk rfl) sz24 ho48 (by rfl) ?_
          refine St.nil ?_
          refine St.in_normal ?_
          refine St.then_normal ?_
          refine St.rg ?_
          refine St.ev _ (Ev.add (Opd.mk rfl) (Opd.mk rfl) (by omega)) rfl ?_
          refine St.ev _ (Ev.move (Opd.mk rfl)) rfl ?_
          refine St.nil ?_
          refine St.then_normal ?_
          refine St.againH2 (k + 1, s1) (slv v33 1 0 l.length, L1) ⟨by dsimp only; omega, hIk, hL1, hwk1.trans (loopW_skip rules ks h25 (.inr (by simpa using hd)))⟩ (by dsimp only; omega) (by dsimp only; repeat (first | exact Sub.nil | refine Sub.cons (by first | rfl | exact congrArg (fun z => some (iv z)) (by first | omega | (dsimp only; omega)) | exact congrArg (fun z => some (Value.bool z)) (by first | assumption | exact Eq.symm (by assumption))) ?_)) (fun _ hw => hw.sub)
    · skip
      try simp only [Bool.and_true, Bool.true_and, decide_eq_true_eq, decide_eq_false_iff_not, Bool.and_eq_true, Bool.or_eq_true, Bool.and_eq_false_iff, Bool.or_eq_false_iff, Bool.not_eq_true', Bool.not_eq_false', beq_iff_eq, beq_eq_false_iff_ne, Int.not_lt, Int.not_le] at h25
      have e0 := loopW_end rules ks (rec := walkF rules ks yb yn m) (l := l) (s := s1) (show ks.length ≤ k by omega)
      refine St.exit ?_
      refine St.then_exit ?_
      refine St.then_exit ?_
      refine St.in_hit ?_
      refine St.then_normal ?_
      refine St.seq ?_
      refine St.rg ?_
      refine St.ev _ (Ev.assign (Opd.mk rfl)) rfl ?_
      refine St.nil ?_
      refine St.then_normal ?_
      refine St.rett ?_
      refine St.rets [_] (blk bl (.cells #[v1] 24 (0, 0)) :: row v1 3 1 l.length (rows intR l) :: L1) Try.results45 ⟨rfl, trivial⟩ ?_ (fun _ hw => hw.sub)
      rw [hwk1, e0]; exact ⟨rfl, v1, l, L1, fun _ => rfl, rfl, hL1⟩

theorem all_spec (rules : List Prec) (hr : ∀ p ∈ rules, kindOk p) (ks : List Str) (hks : ks.length ≤ 7) {σ : Type} (Sp : σ → List Ent → Prop) (hsol : ∀ s L, Sp s L → Solid L) (yb : σ → List Int → Bool) (yn : σ → List Int → σ) (fy : FuncId) (cy : List Value) (hcy : Callable Try.prog fy) (Iv : Nat → σ → Prop) (hmono : ∀ c d s, d ≤ c → Iv c s → Iv d s) (hiv : ∀ c s l, Iv (c + 1) s → yb s l = true → Iv c (yn s l)) (D : Dat) (hy : Takes fy cy Sp yb yn Iv ks.length D)
    (v0 v1 : Value) (s : σ) (L : List Ent) (hI : Iv (leafN ks.length ks.length) s) (hL : Sp s L) : FnH Try.prog 29 [v0, v1, .func (.func fy) #[] cy.toArray].toArray ([sl precR v0 rules, sl strR v1 ks, D].map dat ++ L) (fun _ H' => Sp (walkF rules ks yb yn ks.length [] s).2 H') := by
  refine FnH.body (args := [v0, v1, .func (.func fy) #[] cy.toArray]) 11 Try.func29 rfl Try.ntmps29 rfl (fun c => ?_)
  refine St.seq ?_
  refine St.appl ?_
  refine St.shape v0 (fun a0 c0 e0 _ => ?_)
  subst e0
  refine St.shape v1 (fun a1 c1 e1 _ => ?_)
  subst e1
  refine St.rg ?_
  refine St.box1 (Opd.mk rfl) rfl rfl (fun b3 => ?_)
  refine St.box1 (Opd.mk rfl) rfl rfl (fun b4 => ?_)
  refine St.box1 (Opd.mk rfl) rfl rfl (fun b5 => ?_)
  refine St.nil ?_
  refine St.then_normal ?_
  refine St.seq ?_
  refine St.rg ?_
  refine St.alloc zc24 rfl (fun b6 => ?_)
  refine St.nil ?_
  refine St.then_normal ?_
  refine St.seq ?_
  refine St.rg ?_
  refine St.alloc zc25 rfl (fun b7 => ?_)
  refine St.nil ?_
  refine St.then_normal ?_
  refine St.seq ?_
  refine St.rg ?_
  refine St.ev _ (Ev.func (Opds.cons (Opd.mk rfl) (Opds.cons (Opd.mk rfl) (Opds.cons (Opd.mk rfl) (Opds.cons (Opd.mk rfl) (Opds.cons (Opd.mk rfl) Opds.nil)))))) rfl ?_
  refine St.store1 (Opd.mk rfl) (Opd.mk rfl) sz25 rfl (by rfl) ?_
  refine St.nil ?_
  refine St.then_normal ?_
  refine St.nilrow 3 1 ?_
  refine St.publishB b3 ?_
  refine St.publishB b4 ?_
  refine St.publishB b5 ?_
  refine St.publishB b7 ?_
  refine St.rg ?_
  refine St.ev _ (Ev.ldcel (Opd.mk rfl) Try.underlying25 trivial) rfl ?_
  refine St.callcO (vs := []) (caps := [.pointer (some ⟨b6, 0, none⟩), .pointer (some ⟨b4, 0, none⟩), .pointer (some ⟨b3, 0, none⟩), .pointer (some ⟨b5, 0, none⟩), .pointer (some ⟨b7, 0, none⟩)]) (ds := [sl precR (.slice a0 rules.length c0) rules, sl strR (.slice a1 ks.length c1) ks, cel b4 (.slice a1 ks.length c1), cel b3 (.slice a0 rules.length c0), cel b5 (.func (.func fy) #[] cy.toArray), cel b7 (.func (.func 45) #[] ([.pointer (some ⟨b6, 0, none⟩), .pointer (some ⟨b4, 0, none⟩), .pointer (some ⟨b3, 0, none⟩), .pointer (some ⟨b5, 0, none⟩), .pointer (some ⟨b7, 0, none⟩)] : List Value).toArray), D]) (L := (blk b6 (.cells #[.slice none 0 0] 24 (0, 0)) :: row (.slice none 0 0) 3 1 0 [] :: L)) (R := _) (all1_spec rules hr ks hks Sp hsol yb yn fy cy hcy Iv hmono hiv D hy b6 b4 b3 b5 b7 _ _ ks.length [] (by simp) (fun i hi => by cases hi) (.slice none 0 0) s L 0 (by rw [Nat.zero_add]; exact hI) hL) cb45 (Opd.mk rfl) (Opds.nil) (LentO.alld) (Solid.blk (Solid.row (hsol _ _ hL))) (fun u H' h => by obtain ⟨_, v', l', L', _, rfl, h2⟩ := h; exact Solid.blk (Solid.row (hsol _ _ h2))) rfl ?_
  rintro _ H1 ⟨rfl, v2, l2, L2, hq2, rfl, hL2⟩
  refine St.appr ?_
  refine St.nil ?_
  refine St.rets_normal ?_
  refine St.rets [] L2 Try.results29 trivial ?_ (fun _ hw => hw.sub)
  exact hL2

end Go.Proofs.Ytblnbjlcpleaaaa
