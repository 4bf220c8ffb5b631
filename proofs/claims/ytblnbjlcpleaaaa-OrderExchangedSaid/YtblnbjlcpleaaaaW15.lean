/-
  The laws of Rows: the different rows in increasing order; each from equally many orders.
  Conditions: none.
-/
import Derived.Test.YtblnbjlcpleaaaaW14
set_option linter.unusedSimpArgs false
set_option linter.unusedVariables false
namespace Go.Proofs.Ytblnbjlcpleaaaa
open Go Go.J

theorem waysS_pos : ∀ l : List Str, 1 ≤ waysS l
  | [] => Nat.le_refl _
  | x :: l => by rw [waysS]; exact Nat.mul_pos (Nat.succ_pos _) (waysS_pos l)
theorem waysS_le : ∀ l : List Str, l.length ≤ 7 → waysS l ≤ 7 ^ l.length
  | [], _ => Nat.le_refl _
  | x :: l, h => by
    rw [List.length_cons] at h
    have h1 := waysS_le l (by omega)
    have h2 : l.count x ≤ l.length := List.count_le_length
    rw [waysS, List.length_cons, Nat.pow_succ, Nat.mul_comm (7 ^ l.length)]
    exact Nat.mul_le_mul (by omega) h1
theorem waysS_top {l : List Str} (h : l.length ≤ 7) : waysS l ≤ 823543 := by
  have h1 := waysS_le l h
  have h2 : 7 ^ l.length ≤ 7 ^ 7 := Nat.pow_le_pow_right (by decide) h
  have h3 : (7 : Nat) ^ 7 = 823543 := by decide
  omega
theorem rows_count {rules : List Prec} {ks : List Str} {R : List (List Str)} (h : R.Pairwise (fun a b => wlt a b = true)) (hm : ∀ r, r ∈ R ↔ ∃ x ∈ good rules ks, rowOf ks x = r) : (good rules ks).length = R.length * waysS ks :=
  len_rows (rowOf ks) (waysS ks) R (good rules ks) (h.imp fun q => wlt_ne q) (fun x hx => (hm _).2 ⟨x, hx, rfl⟩) (fun r hr => by obtain ⟨x, hx, rfl⟩ := (hm r).1 hr; exact good_rows hx)
theorem rows_few {rules : List Prec} {ks : List Str} {R : List (List Str)} (h : R.Pairwise (fun a b => wlt a b = true)) (hm : ∀ r, r ∈ R ↔ ∃ x ∈ good rules ks, rowOf ks x = r) : R.length ≤ (good rules ks).length := by
  rw [rows_count h hm]; exact Nat.le_mul_of_pos_right _ (waysS_pos ks)
/-- those of the first k rows that are alike, counted -/
def updF (R : List (List Str)) (row : List Str) (F : List Int) (k : Nat) : List Int := (List.range F.length).map fun i => if i < k ∧ R.getD i [] = row then F.getD i 0 + 1 else F.getD i 0
theorem updF_len (R : List (List Str)) (row : List Str) (F : List Int) (k : Nat) : (updF R row F k).length = F.length := by simp [updF]
theorem updF_at {R : List (List Str)} {row : List Str} {F : List Int} {k i : Nat} (h : i < F.length) : (updF R row F k).getD i 0 = if i < k ∧ R.getD i [] = row then F.getD i 0 + 1 else F.getD i 0 := by
  unfold updF; rw [List.getD_eq_getElem?_getD, List.getElem?_map, List.getElem?_range h]; rfl
theorem updF_zero (R : List (List Str)) (row : List Str) (F : List Int) : updF R row F 0 = F := ext_getD (updF_len ..) fun j hj => by rw [updF_len] at hj; rw [updF_at hj, if_neg (by omega)]
theorem updF_t {R : List (List Str)} {row : List Str} {F : List Int} {k : Nat} (hk : k < F.length) (h : R.getD k [] = row) : (updF R row F k).set k ((updF R row F k).getD k 0 + 1) = updF R row F (k + 1) := by
  refine ext_getD (by rw [List.length_set, updF_len, updF_len]) fun j hj => ?_
  rw [List.length_set, updF_len] at hj
  rw [set_getD (by rw [updF_len]; exact hj), updF_at hj, updF_at hj, updF_at hk]
  by_cases e : k = j
  · subst e
    rw [if_pos rfl, if_neg (by omega), if_pos ⟨by omega, h⟩]
  · rw [if_neg e]
    by_cases q : j < k ∧ R.getD j [] = row
    · rw [if_pos q, if_pos ⟨by omega, q.2⟩]
    · rw [if_neg q, if_neg (by rintro ⟨q1, q2⟩; exact q ⟨by omega, q2⟩)]
theorem updF_f {R : List (List Str)} {row : List Str} {F : List Int} {k : Nat} (h : R.getD k [] ≠ row) : updF R row F (k + 1) = updF R row F k := by
  refine ext_getD (by rw [updF_len, updF_len]) fun j hj => ?_
  rw [updF_len] at hj
  rw [updF_at hj, updF_at hj]
  by_cases q : j < k ∧ R.getD j [] = row
  · rw [if_pos q, if_pos ⟨by omega, q.2⟩]
  · rw [if_neg q, if_neg (by rintro ⟨q1, q2⟩; rcases Nat.lt_or_ge j k with t | t; exact q ⟨t, q2⟩; obtain rfl : j = k := (by omega); exact h q2)]
structure CntI (rules : List Prec) (ks : List Str) (R : List (List Str)) (F : List Int) (j : Nat) : Prop where
  len : F.length = R.length
  num : ∀ i, i < R.length → F.getD i 0 = (((good rules ks).take j).countP (fun y => decide (rowOf ks y = R.getD i [])) : Nat)
theorem CntI.zero (rules : List Prec) (ks : List Str) (R : List (List Str)) : CntI rules ks R (List.replicate R.length 0) 0 := ⟨by simp, fun i hi => by
  rw [List.getD_eq_getElem?_getD, List.getElem?_replicate, if_pos hi]; rfl⟩
theorem CntI.step {rules : List Prec} {ks : List Str} {R : List (List Str)} {F : List Int} {j : Nat} {x : List Int} (h : CntI rules ks R F j) (hx : (good rules ks)[j]? = some x) : CntI rules ks R (updF R (rowOf ks x) F R.length) (j + 1) := by
  refine ⟨by rw [updF_len, h.len], fun i hi => ?_⟩
  rw [updF_at (by rw [h.len]; exact hi), h.num i hi, take_of_some hx, List.countP_append]
  by_cases q : R.getD i [] = rowOf ks x
  · rw [if_pos ⟨hi, q⟩, List.countP_singleton, if_pos (decide_eq_true q.symm)]; rfl
  · rw [if_neg (fun t => q t.2), List.countP_singleton, if_neg (by rw [decide_eq_true_eq]; exact fun t => q t.symm)]; rfl
theorem CntI.le {rules : List Prec} {ks : List Str} {R : List (List Str)} {F : List Int} {j i : Nat} (h : CntI rules ks R F j) (hi : i < R.length) : 0 ≤ F.getD i 0 ∧ F.getD i 0 ≤ (good rules ks).length := by
  rw [h.num i hi]
  have h1 := List.countP_le_length (p := fun y => decide (rowOf ks y = R.getD i [])) (l := (good rules ks).take j)
  rw [List.length_take] at h1
  omega
theorem CntI.pos {rules : List Prec} {ks : List Str} {R : List (List Str)} {F : List Int} {j i : Nat} (h : CntI rules ks R F j) (hj : (good rules ks).length ≤ j) (hm : ∀ r, r ∈ R ↔ ∃ x ∈ good rules ks, rowOf ks x = r) (hi : i < R.length) : F.getD i 0 ≠ 0 := by
  rw [h.num i hi, List.take_of_length_le hj]
  have hr : R.getD i [] ∈ R := by rw [List.getD_eq_getElem?_getD, List.getElem?_eq_getElem hi]; exact List.getElem_mem hi
  obtain ⟨x, hx, he⟩ := (hm _).1 hr
  rw [← he, good_rows hx]
  have := waysS_pos ks
  omega
theorem RowsP.bad {rules : List Prec} {ks : List Str} {R : List (List Str)} (h : RowsP rules ks R) (hc : (chk rules ks).1 ≠ 0) : R = [] := by
  rcases h with h | h
  · exact h.2
  · exact absurd h.1 hc
theorem RowsP.ok {rules : List Prec} {ks : List Str} {R : List (List Str)} (h : RowsP rules ks R) (hc : (chk rules ks).1 = 0) : R.Pairwise (fun a b => wlt a b = true) ∧ ∀ r, r ∈ R ↔ ∃ x ∈ good rules ks, rowOf ks x = r := by
  rcases h with h | h
  · exact absurd hc h.1
  · exact h.2
theorem pw_at {R : List (List Str)} (h : R.Pairwise (fun a b => wlt a b = true)) {i : Nat} {a b : List Str} (ha : R[i]? = some a) (hb : R[i + 1]? = some b) : wlt a b = true := by
  have h1 := List.pairwise_iff_getElem.1 h i (i + 1) (lt_of_some ha) (lt_of_some hb) (by omega)
  rw [List.getElem?_eq_getElem (lt_of_some ha)] at ha
  rw [List.getElem?_eq_getElem (lt_of_some hb)] at hb
  simp only [Option.some.injEq] at ha hb
  rw [ha, hb] at h1
  exact h1

theorem law7_spec (v0 v1 : Value) (rules : List Prec) (ks : List Str) : FnV Try.prog 7 #[v0, v1] [sl precR v0 rules, sl strR v1 ks] (.bool true) := by
  refine FnV.body2 (args := [v0, v1]) 126 Try.func7 rfl Try.ntmps7 rfl (fun c => ?_)
  refine St.seq ?_
  refine St.wf v1 (fun hwf1 hlen1 => ?_)
  refine St.rg ?_
  refine St.ev _ (Ev.assign (Opd.mk rfl)) rfl ?_
  refine St.nil ?_
  refine St.then_normal ?_
  refine St.seq ?_
  refine St.seq ?_
  refine St.rg ?_
  refine St.ev _ (Ev.call (orderReady_spec) cb9 (Opds.nil)) rfl ?_
  refine St.ev _ (Ev.not (Opd.mk rfl)) rfl ?_
  refine St.nil ?_
  refine St.then_normal ?_
  refine St.condf _ rfl rfl ?_
  refine St.skip ?_
  refine St.then_normal ?_
  refine St.seq ?_
  refine St.rg ?_
  refine St.ev _ (Ev.move (Opd.mk rfl)) rfl ?_
  refine St.ev _ (Ev.move (Opd.mk rfl)) rfl ?_
  refine St.calld (Rows_spec v0 v1 rules ks) cb21 (Opds.cons (Opd.mk rfl) (Opds.cons (Opd.mk rfl) Opds.nil)) rfl ?_
  rintro v22 _ ⟨vo, vs, R, rfl, hvl, hR, rfl⟩
  refine St.app2 ?_
  refine St.ev _ (Ev.move (Opd.mk rfl)) rfl ?_
  refine St.ev _ (Ev.extract (Opd.mk rfl) rfl) rfl ?_
  refine St.ev _ (Ev.extract (Opd.mk rfl) rfl) rfl ?_
  refine St.alloc zc27 rfl (fun b6 => ?_)
  refine St.ev _ (Ev.assign (Opd.mk rfl)) rfl ?_
  refine St.storeA (Opd.mk rfl) (Opd.mk rfl) sz27 (by first | simp only [List.length_cons, List.length_nil] | rfl) rfl ?_
  refine St.nil ?_
  refine St.then_normal ?_
  refine St.seq ?_
  refine St.rg ?_
  refine St.ev _ (Ev.move (Opd.mk rfl)) rfl ?_
  refine St.ev _ (Ev.move (Opd.mk rfl)) rfl ?_
  refine St.ev _ (Ev.call (OrderKinds_spec v0 v1 rules ks) cb11 (Opds.cons (Opd.mk rfl) (Opds.cons (Opd.mk rfl) Opds.nil))) rfl ?_
  refine St.alloc zc27 rfl (fun b7 => ?_)
  refine St.storeA (Opd.mk rfl) (Opd.mk rfl) sz27 (by first | simp only [List.length_cons, List.length_nil] | rfl) rfl ?_
  refine St.nil ?_
  refine St.then_normal ?_
  refine St.seq ?_
  refine St.seq ?_
  refine St.rg ?_
  refine St.ev _ (Ev.fldb0 (Opd.mk rfl) fo27_0) rfl ?_
  refine St.ev _ (Ev.ldb (Opd.mk rfl) Try.underlying3 trivial (by rfl)) rfl ?_
  refine St.ev _ (Ev.neq (Opd.mk rfl) (Opd.mk rfl)) rfl ?_
  refine St.nil ?_
  refine St.then_normal ?_
  refine St.cond _ rfl (fun h30 => ?_) (fun h30 => ?_)
  · skip
    try simp only [Bool.and_true, Bool.true_and, decide_eq_true_eq, decide_eq_false_iff_not, Bool.and_eq_true, Bool.or_eq_true, Bool.and_eq_false_iff, Bool.or_eq_false_iff, Bool.not_eq_true', Bool.not_eq_false', beq_iff_eq, beq_eq_false_iff_ne, Int.not_lt, Int.not_le] at h30
    have hR0 := hR.bad h30
    have hv0 : vs.length = 0 := by rw [hvl, hR0]; rfl
    refine St.seq ?_
    refine St.rg ?_
    refine St.ev _ (Ev.ldbA (Opd.mk rfl) Try.underlying27 trivial (by exact sz27)) rfl ?_
    refine St.ev _ (Ev.ldbA (Opd.mk rfl) Try.underlying27 trivial (by exact sz27)) rfl ?_
    refine St.ev _ (Ev.structeql (Opd.mk rfl) (Opd.mk rfl) Try.eqGuardType27 (fun w => eqf27 _ _ _ _ w)) rfl ?_
    refine St.ev _ (Ev.move (Opd.mk rfl)) rfl ?_
    refine St.gt _ rfl rfl (fun hg => Ev.move (Opd.mk rfl)) rfl ?_
    refine St.gt _ rfl rfl (fun hg => Ev.lensl (Opd.gv rfl hg) Try.underlying48) rfl ?_
    refine St.gt _ rfl rfl (fun hg => Ev.eql (Opd.gv rfl hg) (Opd.mk rfl)) rfl ?_
    refine St.ev _ (Ev.and (Opd.mk rfl) (fun hp => Opd.gv rfl hp)) rfl ?_
    refine St.ev _ (Ev.assign (Opd.mk rfl)) rfl ?_
    refine St.nil ?_
    refine St.then_normal ?_
    refine St.rett ?_
    refine St.then_ret ?_
    refine St.rets [_] [] Try.results7 ⟨rfl, trivial⟩ ?_ (fun _ hw => hw.sub)
    exact be (by simp [hv0])
  · skip
    try simp only [Bool.and_true, Bool.true_and, decide_eq_true_eq, decide_eq_false_iff_not, Bool.and_eq_true, Bool.or_eq_true, Bool.and_eq_false_iff, Bool.or_eq_false_iff, Bool.not_eq_true', Bool.not_eq_false', beq_iff_eq, beq_eq_false_iff_ne, Int.not_lt, Int.not_le] at h30
    have hcz : (chk rules ks).1 = 0 := by omega
    obtain ⟨hpw, hmem⟩ := hR.ok hcz
    obtain ⟨hr, hks⟩ := chk_ok hcz
    have hgs := good_small (rules := rules) (ks := ks) (by omega)
    have hfew := rows_few hpw hmem
    refine St.skip ?_
    refine St.then_normal ?_
    refine St.seq ?_
    refine St.seq ?_
    refine St.rg ?_
    refine St.ev _ (Ev.fldb0 (Opd.mk rfl) fo27_0) rfl ?_
    refine St.ev _ (Ev.ldb (Opd.mk rfl) Try.underlying3 trivial (by rfl)) rfl ?_
    refine St.ev _ (Ev.neq (Opd.mk rfl) (Opd.mk rfl)) rfl ?_
    refine St.nil ?_
    refine St.then_normal ?_
    refine St.condf _ rfl (by rw [hcz]; simp) ?_
    refine St.skip ?_
    refine St.then_normal ?_
    refine St.seq ?_
    refine St.seq ?_
    refine St.rg ?_
    refine St.ev _ (Ev.assign (Opd.mk rfl)) rfl ?_
    refine St.nil ?_
    refine St.then_normal ?_
    refine St.block ?_
    refine St.loopS (ι := Nat) (fun i T => (8, iv i) :: T) (fun i => i ≤ vs.length) (fun i => vs.length - i) 0 (Keep.cons 0 rfl (Keep.cons 1 rfl (Keep.cons 5 rfl Keep.nil))) (Nat.zero_le _) (by repeat (first | exact Sub.nil | refine Sub.cons (by first | rfl | exact congrArg (fun z => some (iv z)) (by first | omega | (dsimp only; omega)) | exact congrArg (fun z => some (Value.bool z)) (by first | assumption | exact Eq.symm (by assumption))) ?_)) ?_
    intro i hphi
    refine St.seq ?_
    refine St.seq ?_
    refine St.rg ?_
    refine St.ev _ (Ev.move (Opd.mk rfl)) rfl ?_
    refine St.ev _ (Ev.add (Opd.mk rfl) (Opd.mk rfl) (by omega)) rfl ?_
    refine St.ev _ (Ev.move (Opd.mk rfl)) rfl ?_
    refine St.ev _ (Ev.lensl (Opd.mk rfl) Try.underlying48) rfl ?_
    refine St.ev _ (Ev.lss (Opd.mk rfl) (Opd.mk rfl)) rfl ?_
    refine St.nil ?_
    refine St.then_normal ?_
    refine St.cond _ rfl (fun h46 => ?_) (fun h46 => ?_)
    · skip
      try simp only [Bool.and_true, Bool.true_and, decide_eq_true_eq, decide_eq_false_iff_not, Bool.and_eq_true, Bool.or_eq_true, Bool.and_eq_false_iff, Bool.or_eq_false_iff, Bool.not_eq_true', Bool.not_eq_false', beq_iff_eq, beq_eq_false_iff_ne, Int.not_lt, Int.not_le] at h46
      obtain ⟨r1, hr1⟩ := some_of_lt (show i < R.length by omega)
      obtain ⟨r2, hr2⟩ := some_of_lt (show i + 1 < R.length by omega)
      obtain ⟨u1, hu1⟩ := some_of_lt (show i < vs.length by omega)
      obtain ⟨u2, hu2⟩ := some_of_lt (show i + 1 < vs.length by omega)
      refine St.ptw (vs := vs) i hu1 hr1 ?_
      refine St.ptw (vs := vs) (i + 1) hu2 hr2 ?_
      have hlt := cww_lt (pw_at hpw hr1 hr2)
      refine St.skip ?_
      refine St.then_normal ?_
      refine St.seq ?_
      refine St.block ?_
      refine St.seq ?_
      refine St.rq mixed (by kernel_rfl) (Mm.drawn _ _) ?_
      refine Sq.ev _ (Ev.move (Opd.mk rfl)) rfl ?_
      refine Sq.ev _ (Ev.move (Opd.mk rfl)) rfl ?_
      refine Sq.ev _ (Ev.idxaddr  (Opd.mk rfl) (Opd.mk rfl) Try.underlying48 sz23 rfl (by omega)) rfl ?_
      refine Sq.ev _ (Ev.ld1 (Opd.mk rfl) hu1 Try.underlying23 trivial rfl) rfl ?_
      refine Sq.ev _ (Ev.move (Opd.mk rfl)) rfl ?_
      refine Sq.ev _ (Ev.move (Opd.mk rfl)) rfl ?_
      refine Sq.ev _ (Ev.add (Opd.mk rfl) (Opd.mk rfl) (by omega)) rfl ?_
      refine Sq.ev _ (Ev.idxaddr (k := (i + 1)) (Opd.mk rfl) (Opd.mk rfl) Try.underlying48 sz23 (by omega) (by omega)) rfl ?_
      refine Sq.ev _ (Ev.ld1 (Opd.mk rfl) hu2 Try.underlying23 trivial rfl) rfl ?_
      refine Sq.ev _ (Ev.call (compareWords_spec u1.1 u2.1 r1 r2) cb22 (Opds.cons (Opd.mk rfl) (Opds.cons (Opd.mk rfl) Opds.nil))) rfl ?_
      refine Sq.ev _ (Ev.geq (Opd.mk rfl) (Opd.mk rfl)) rfl ?_
      refine Sq.nil ?_
      refine St.then_normal ?_
      refine St.condf _ rfl (decide_eq_false (by omega)) ?_
      refine St.skip ?_
      refine St.in_normal ?_
      refine St.then_normal ?_
      refine St.rg ?_
      refine St.ev _ (Ev.move (Opd.mk rfl)) rfl ?_
      refine St.ev _ (Ev.add (Opd.mk rfl) (Opd.mk rfl) (by omega)) rfl ?_
      refine St.ev _ (Ev.assign (Opd.mk rfl)) rfl ?_
      refine St.nil ?_
      refine St.then_normal ?_
      refine St.againS (i + 1) (by omega) (by first | omega | (dsimp only; omega)) (by repeat (first | exact Sub.nil | refine Sub.cons (by first | rfl | exact congrArg (fun z => some (iv z)) (by first | omega | (dsimp only; omega)) | exact congrArg (fun z => some (Value.bool z)) (by first | assumption | exact Eq.symm (by assumption))) ?_)) (fun _ hw => hw.sub)
    · skip
      try simp only [Bool.and_true, Bool.true_and, decide_eq_true_eq, decide_eq_false_iff_not, Bool.and_eq_true, Bool.or_eq_true, Bool.and_eq_false_iff, Bool.or_eq_false_iff, Bool.not_eq_true', Bool.not_eq_false', beq_iff_eq, beq_eq_false_iff_ne, Int.not_lt, Int.not_le] at h46
      refine St.exit ?_
      refine St.then_exit ?_
      refine St.then_exit ?_
      refine St.in_hit ?_
      refine St.then_normal ?_
      refine St.seq ?_
      refine St.rg ?_
      refine St.ev _ (Ev.move (Opd.mk rfl)) rfl ?_
      refine St.ev _ (Ev.move (Opd.mk rfl)) rfl ?_
      refine St.calld (OrderAll_spec v0 v1 rules ks hks) cb19 (Opds.cons (Opd.mk rfl) (Opds.cons (Opd.mk rfl) Opds.nil)) rfl ?_
      rintro v62 _ ⟨ws, hwl, rfl⟩
      refine St.app2 ?_
      refine St.ev _ (Ev.assign (Opd.mk rfl)) rfl ?_
      refine St.nil ?_
      refine St.then_normal ?_
      refine St.seq ?_
      refine St.rg ?_
      refine St.ev _ (Ev.move (Opd.mk rfl)) rfl ?_
      refine St.ev _ (Ev.lensl (Opd.mk rfl) Try.underlying48) rfl ?_
      refine St.makeSl (m := vs.length) (Opd.mk rfl) (Opd.mk rfl) Try.underlying24 sz3 zv3 by3 rfl rfl (by omega) rfl rfl (fun b65 => ?_)
      refine St.ev _ (Ev.assign (Opd.mk rfl)) rfl ?_
      refine St.nil ?_
      refine St.then_normal ?_
      refine St.seq ?_
      refine St.seq ?_
      refine St.rg ?_
      refine St.ev _ (Ev.assign (Opd.mk rfl)) rfl ?_
      refine St.nil ?_
      refine St.then_normal ?_
      refine St.block ?_
      refine St.rowEq (.slice (some ⟨b65, 0, none⟩) vs.length vs.length) (show _ = rows intR (List.replicate R.length 0) by rw [← hvl]; exact (rows_replicate rfl _).symm) ?_
      refine St.loopH (ι := Nat × List Int) (fun x T => (11, iv x.1) :: T) (fun x => [row (.slice (some ⟨b65, 0, none⟩) vs.length vs.length) 3 1 vs.length (rows intR x.2), dat (sl strR v1 ks), dat (sl valR vo vs), dat (ptw strR vs R), dat (sl valR v62 ws), dat (ptw intR ws (good rules ks))]) (fun x => x.1 ≤ (good rules ks).length ∧ CntI rules ks R x.2 x.1) (fun x => (good rules ks).length - x.1) (0, List.replicate R.length 0) (Keep.cons 1 rfl (Keep.cons 5 rfl (Keep.cons 9 rfl (Keep.cons 10 rfl Keep.nil)))) ⟨Nat.zero_le _, CntI.zero rules ks R⟩ (by repeat (first | exact Sub.nil | refine Sub.cons (by first | rfl | exact congrArg (fun z => some (iv z)) (by first | omega | (dsimp only; omega)) | exact congrArg (fun z => some (Value.bool z)) (by first | assumption | exact Eq.symm (by assumption))) ?_)) (fun _ hw => hw.sub) ?_
      rintro ⟨j, F⟩ ⟨hj, hcn⟩
      dsimp only at hj hcn ⊢
      have hFl := hcn.len
      refine St.seq ?_
      refine St.seq ?_
      refine St.rg ?_
      refine St.ev _ (Ev.move (Opd.mk rfl)) rfl ?_
      refine St.ev _ (Ev.move (Opd.mk rfl)) rfl ?_
      refine St.ev _ (Ev.lensl (Opd.mk rfl) Try.underlying35) rfl ?_
      refine St.ev _ (Ev.lss (Opd.mk rfl) (Opd.mk rfl)) rfl ?_
      refine St.nil ?_
      refine St.then_normal ?_
      refine St.cond _ rfl (fun h69 => ?_) (fun h69 => ?_)
      · skip
        try simp only [Bool.and_true, Bool.true_and, decide_eq_true_eq, decide_eq_false_iff_not, Bool.and_eq_true, Bool.or_eq_true, Bool.and_eq_false_iff, Bool.or_eq_false_iff, Bool.not_eq_true', Bool.not_eq_false', beq_iff_eq, beq_eq_false_iff_ne, Int.not_lt, Int.not_le] at h69
        obtain ⟨a, ha⟩ := some_of_lt (show j < (good rules ks).length by omega)
        obtain ⟨u, hu⟩ := some_of_lt (show j < ws.length by omega)
        refine St.ptw (vs := ws) j hu ha ?_
        obtain ⟨hlo, hnd, hal, _⟩ := good_ok (List.mem_of_getElem? ha)
        refine St.skip ?_
        refine St.then_normal ?_
        refine St.seq ?_
        refine St.block ?_
        refine St.seq ?_
        refine St.rg ?_
        refine St.buildSl (xs := []) (ps := []) rfl (Opds.nil) Try.underlying23 sz9 zv9 rfl rfl (by simp [Value.cells]) rfl rfl (fun b72 => ?_)
        refine St.ev _ (Ev.assign (Opd.mk rfl)) rfl ?_
        refine St.nil ?_
        refine St.then_normal ?_
        refine St.seq ?_
        refine St.seq ?_
        refine St.rg ?_
        refine St.ev _ (Ev.assign (Opd.mk rfl)) rfl ?_
        refine St.nil ?_
        refine St.then_normal ?_
        refine St.block ?_
        refine St.rowEqN (.slice (some ⟨b72, 0, none⟩) 0 0) (show _ = 0 from rfl) (show _ = rows strR (rowOf ks (a.take 0)) from rfl) ?_
        refine St.loopH2 (ι := Nat) (κ := Value) (fun q w T => (13, iv q) :: (12, w) :: T) (fun q w => [row w 9 1 q (rows strR (rowOf ks (a.take q))), row (.slice (some ⟨b65, 0, none⟩) vs.length vs.length) 3 1 vs.length (rows intR F), dat (sl intR u.1 a), dat (sl strR v1 ks), dat (sl valR vo vs), dat (ptw strR vs R), dat (sl valR v62 ws), dat (ptw intR ws (good rules ks))]) (fun q w => q ≤ a.length) (fun q w => a.length - q) 0 (.slice (some ⟨b72, 0, none⟩) 0 0) (Keep.cons 1 rfl (Keep.cons 5 rfl (Keep.cons 9 rfl (Keep.cons 10 rfl (Keep.cons 11 rfl Keep.nil))))) (Nat.zero_le _) (by repeat (first | exact Sub.nil | refine Sub.cons (by first | rfl | exact congrArg (fun z => some (iv z)) (by first | omega | (dsimp only; omega)) | exact congrArg (fun z => some (Value.bool z)) (by first | assumption | exact Eq.symm (by assumption))) ?_)) (fun _ hw => hw.sub) ?_
        intro q w hphi
        refine St.seq ?_
        refine St.seq ?_
        refine St.rg ?_
        refine St.ev _ (Ev.move (Opd.mk rfl)) rfl ?_
        refine St.ev _ (Ev.move (Opd.mk rfl)) rfl ?_
        refine St.ev _ (Ev.move (Opd.mk rfl)) rfl ?_
        refine St.ev _ (Ev.idxaddr  (Opd.mk rfl) (Opd.mk rfl) Try.underlying35 sz24 rfl (by omega)) rfl ?_
        refine St.ev _ (Ev.ld1 (Opd.mk rfl) hu Try.underlying24 trivial rfl) rfl ?_
        refine St.ev _ (Ev.lensl (Opd.mk rfl) Try.underlying24) rfl ?_
        refine St.ev _ (Ev.lss (Opd.mk rfl) (Opd.mk rfl)) rfl ?_
        refine St.nil ?_
        refine St.then_normal ?_
        refine St.cond _ rfl (fun h79 => ?_) (fun h79 => ?_)
        · skip
          try simp only [Bool.and_true, Bool.true_and, decide_eq_true_eq, decide_eq_false_iff_not, Bool.and_eq_true, Bool.or_eq_true, Bool.and_eq_false_iff, Bool.or_eq_false_iff, Bool.not_eq_true', Bool.not_eq_false', beq_iff_eq, beq_eq_false_iff_ne, Int.not_lt, Int.not_le] at h79
          have hlq := hlo (a.getD q 0) (List.mem_of_getElem? (some_getD 0 (by omega)))
          refine St.skip ?_
          refine St.then_normal ?_
          refine St.seq ?_
          refine St.block ?_
          refine St.rg ?_
          refine St.ev _ (Ev.move (Opd.mk rfl)) rfl ?_
          refine St.ev _ (Ev.move (Opd.mk rfl)) rfl ?_
          refine St.ev _ (Ev.move (Opd.mk rfl)) rfl ?_
          refine St.ev _ (Ev.move (Opd.mk rfl)) rfl ?_
          refine St.ev _ (Ev.idxaddr  (Opd.mk rfl) (Opd.mk rfl) Try.underlying35 sz24 rfl (by omega)) rfl ?_
          refine St.ev _ (Ev.ld1 (Opd.mk rfl) hu Try.underlying24 trivial rfl) rfl ?_
          refine St.ev _ (Ev.move (Opd.mk rfl)) rfl ?_
          refine St.ev _ (Ev.idxaddr  (Opd.mk rfl) (Opd.mk rfl) Try.underlying24 sz3 rfl (by omega)) rfl ?_
          refine St.ev _ (Ev.ld1 (Opd.mk rfl) (by first | assumption | exact some_getD 0 (by omega)) Try.underlying3 trivial rfl) rfl ?_
          refine St.ev _ (Ev.idxaddr (k := (a.getD q 0).toNat) (Opd.mk rfl) (Opd.mk rfl) Try.underlying23 sz9 (by omega) (by omega)) rfl ?_
          refine St.ev _ (Ev.ld1 (Opd.mk rfl) (by first | assumption | exact some_getD [] (by omega)) Try.underlying9 trivial rfl) rfl ?_
          refine St.buildSl (xs := [(Operand.tmp 92)]) (ps := [(0, (Operand.tmp 92))]) rfl (Opds.cons (Opd.mk rfl) Opds.nil) Try.underlying23 sz9 zv9 rfl rfl (by simp [Value.cells]) rfl rfl (fun b93 => ?_)
          refine St.appendRow (Opd.mk rfl) (Opd.mk rfl) Try.underlying23 sz9 zv9 by9 (by simp [Value.oneCell', Value.cells]) (by omega) (by omega) rfl rfl rfl rfl (fun v94 hv94 => ?_)
          refine St.ev _ (Ev.assign (Opd.mk rfl)) rfl ?_
          refine St.nil ?_
          refine St.in_normal ?_
          refine St.then_normal ?_
          refine St.rg ?_
          refine St.ev _ (Ev.move (Opd.mk rfl)) rfl ?_
          refine St.ev _ (Ev.add (Opd.mk rfl) (Opd.mk rfl) (by omega)) rfl ?_
          refine St.ev _ (Ev.assign (Opd.mk rfl)) rfl ?_
          refine St.nil ?_
          refine St.then_normal ?_
          refine St.rowEqN v94 (show _ = q + 1 by omega) (show _ = rows strR (rowOf ks (a.take (q + 1))) by rw [rowOf_snoc ks (some_getD 0 (show q < a.length by omega)), rows_snoc]; rfl) ?_
          refine St.againH2 (q + 1) v94 (by omega) (by first | omega | (dsimp only; omega)) (by repeat (first | exact Sub.nil | refine Sub.cons (by first | rfl | exact congrArg (fun z => some (iv z)) (by first | omega | (dsimp only; omega)) | exact congrArg (fun z => some (Value.bool z)) (by first | assumption | exact Eq.symm (by assumption))) ?_)) (fun _ hw => hw.sub)
        · skip
          try simp only [Bool.and_true, Bool.true_and, decide_eq_true_eq, decide_eq_false_iff_not, Bool.and_eq_true, Bool.or_eq_true, Bool.and_eq_false_iff, Bool.or_eq_false_iff, Bool.not_eq_true', Bool.not_eq_false', beq_iff_eq, beq_eq_false_iff_ne, Int.not_lt, Int.not_le] at h79
          have hqa : a.take q = a := List.take_of_length_le (by omega)
          rw [hqa]
          refine St.publish w strR (rowOf ks a) rfl (by rw [rowOf_length]; omega) (rowOf_wf2 hwf1 a) ?_
          refine St.exit ?_
          refine St.then_exit ?_
          refine St.then_exit ?_
          refine St.in_hit ?_
          refine St.then_normal ?_
          refine St.seq ?_
          refine St.rg ?_
          refine St.ev _ (Ev.assign (Opd.mk rfl)) rfl ?_
          refine St.nil ?_
          refine St.then_normal ?_
          refine St.seq ?_
          refine St.seq ?_
          refine St.rg ?_
          refine St.ev _ (Ev.assign (Opd.mk rfl)) rfl ?_
          refine St.nil ?_
          refine St.then_normal ?_
          refine St.block ?_
          refine St.rowEq (.slice (some ⟨b65, 0, none⟩) vs.length vs.length) (show _ = rows intR (updF R (rowOf ks a) F 0) by rw [updF_zero]) ?_
          refine St.loopH (ι := Nat) (fun k T => (15, iv k) :: (14, .bool ((R.take k).any fun r => decide (r = rowOf ks a))) :: T) (fun k => [row (.slice (some ⟨b65, 0, none⟩) vs.length vs.length) 3 1 vs.length (rows intR (updF R (rowOf ks a) F k)), dat (sl strR w (rowOf ks a)), dat (sl strR v1 ks), dat (sl valR vo vs), dat (ptw strR vs R), dat (sl valR v62 ws), dat (ptw intR ws (good rules ks))]) (fun k => k ≤ vs.length) (fun k => vs.length - k) 0 (Keep.cons 1 rfl (Keep.cons 5 rfl (Keep.cons 9 rfl (Keep.cons 10 rfl (Keep.cons 11 rfl (Keep.cons 12 rfl Keep.nil)))))) (Nat.zero_le _) (by repeat (first | exact Sub.nil | refine Sub.cons (by first | rfl | exact congrArg (fun z => some (iv z)) (by first | omega | (dsimp only; omega)) | exact congrArg (fun z => some (Value.bool z)) (by first | assumption | exact Eq.symm (by assumption))) ?_)) (fun _ hw => hw.sub) ?_
          intro k hphi
          have hul := updF_len R (rowOf ks a) F k
          refine St.seq ?_
          refine St.seq ?_
          refine St.rg ?_
          refine St.ev _ (Ev.move (Opd.mk rfl)) rfl ?_
          refine St.ev _ (Ev.move (Opd.mk rfl)) rfl ?_
          refine St.ev _ (Ev.lensl (Opd.mk rfl) Try.underlying48) rfl ?_
          refine St.ev _ (Ev.lss (Opd.mk rfl) (Opd.mk rfl)) rfl ?_
          refine St.nil ?_
          refine St.then_normal ?_
          refine St.cond _ rfl (fun h98 => ?_) (fun h98 => ?_)
          · skip
            try simp only [Bool.and_true, Bool.true_and, decide_eq_true_eq, decide_eq_false_iff_not, Bool.and_eq_true, Bool.or_eq_true, Bool.and_eq_false_iff, Bool.or_eq_false_iff, Bool.not_eq_true', Bool.not_eq_false', beq_iff_eq, beq_eq_false_iff_ne, Int.not_lt, Int.not_le] at h98
            obtain ⟨r, hr3⟩ := some_of_lt (show k < R.length by omega)
            obtain ⟨u3, hu3⟩ := some_of_lt (show k < vs.length by omega)
            refine St.ptw (vs := vs) k hu3 hr3 ?_
            have hrg : R.getD k [] = r := getD_of_some hr3
            have hFk := hcn.le (show k < R.length by omega)
            have hUk : (updF R (rowOf ks a) F k).getD k 0 = F.getD k 0 := by rw [updF_at (by omega), if_neg (by omega)]
            refine St.skip ?_
            refine St.then_normal ?_
            refine St.seq ?_
            refine St.block ?_
            refine St.seq ?_
            refine St.rg ?_
            refine St.ev _ (Ev.move (Opd.mk rfl)) rfl ?_
            refine St.ev _ (Ev.move (Opd.mk rfl)) rfl ?_
            refine St.ev _ (Ev.idxaddr  (Opd.mk rfl) (Opd.mk rfl) Try.underlying48 sz23 rfl (by omega)) rfl ?_
            refine St.ev _ (Ev.ld1 (Opd.mk rfl) hu3 Try.underlying23 trivial rfl) rfl ?_
            refine St.ev _ (Ev.move (Opd.mk rfl)) rfl ?_
            refine St.ev _ (Ev.call (sameWords_spec u3.1 w r (rowOf ks a)) cb23 (Opds.cons (Opd.mk rfl) (Opds.cons (Opd.mk rfl) Opds.nil))) rfl ?_
            refine St.nil ?_
            refine St.then_normal ?_
            refine St.cond _ rfl (fun h106 => ?_) (fun h106 => ?_)
            · skip
              try simp only [Bool.and_true, Bool.true_and, decide_eq_true_eq, decide_eq_false_iff_not, Bool.and_eq_true, Bool.or_eq_true, Bool.and_eq_false_iff, Bool.or_eq_false_iff, Bool.not_eq_true', Bool.not_eq_false', beq_iff_eq, beq_eq_false_iff_ne, Int.not_lt, Int.not_le] at h106
              have e1 := any_take_t (f := fun r => decide (r = rowOf ks a)) hr3 (decide_eq_true h106)
              have hup := updF_t (F := F) (show k < F.length by omega) (hrg.trans h106)
              refine St.seq ?_
              refine St.rg ?_
              refine St.ev _ (Ev.move (Opd.mk rfl)) rfl ?_
              refine St.ev _ (Ev.move (Opd.mk rfl)) rfl ?_
              refine St.ev _ (Ev.idxaddrrow (k := k) (Opd.mk rfl) (Opd.mk rfl) Try.underlying24 sz3 (by omega) (by omega)) rfl ?_
              refine St.ev _ (Ev.ldrow (Opd.mk rfl) Try.underlying3 trivial (by omega) (rowI (by omega))) rfl ?_
              refine St.ev _ (Ev.add (Opd.mk rfl) (Opd.mk rfl) (by omega)) rfl ?_
              refine St.ev _ (Ev.idxaddrrow (k := k) (Opd.mk rfl) (Opd.mk rfl) Try.underlying24 sz3 (by omega) (by omega)) rfl ?_
              refine St.storerow (Opd.mk rfl) (Opd.mk rfl) sz3 rfl (by omega) (by decide) ?_
              refine St.rowEq (.slice (some ⟨b65, 0, none⟩) vs.length vs.length) (show _ = rows intR (updF R (rowOf ks a) F (k + 1)) by rw [rowI_set, hup]) ?_
              refine St.nil ?_
              refine St.then_normal ?_
              refine St.rg ?_
              refine St.ev _ (Ev.assign (Opd.mk rfl)) rfl ?_
              refine St.nil ?_
              refine St.in_normal ?_
              refine St.then_normal ?_
              refine St.rg ?_
              refine St.ev _ (Ev.move (Opd.mk rfl)) rfl ?_
              refine St.ev _ (Ev.add (Opd.mk rfl) (Opd.mk rfl) (by omega)) rfl ?_
              refine St.ev _ (Ev.assign (Opd.mk rfl)) rfl ?_
              refine St.nil ?_
              refine St.then_normal ?_
              refine St.againH (k + 1) (by omega) (by first | omega | (dsimp only; omega)) (by repeat (first | exact Sub.nil | refine Sub.cons (by first | rfl | exact congrArg (fun z => some (iv z)) (by first | omega | (dsimp only; omega)) | exact congrArg (fun z => some (Value.bool z)) (by first | assumption | exact Eq.symm (by assumption))) ?_)) (fun _ hw => hw.sub)
            · skip
              try simp only [Bool.and_true, Bool.true_and, decide_eq_true_eq, decide_eq_false_iff_not, Bool.and_eq_true, Bool.or_eq_true, Bool.and_eq_false_iff, Bool.or_eq_false_iff, Bool.not_eq_true', Bool.not_eq_false', beq_iff_eq, beq_eq_false_iff_ne, Int.not_lt, Int.not_le] at h106
              have e1 := any_take_f (f := fun r => decide (r = rowOf ks a)) hr3 (decide_eq_false h106)
              have hup := updF_f (F := F) (R := R) (k := k) (row := rowOf ks a) (by rw [hrg]; exact h106)
              rw [← hup]
              refine St.skip ?_
              refine St.in_normal ?_
              refine St.then_normal ?_
              refine St.rg ?_
              refine St.ev _ (Ev.move (Opd.mk rfl)) rfl ?_
              refine St.ev _ (Ev.add (Opd.mk rfl) (Opd.mk rfl) (by omega)) rfl ?_
              refine St.ev _ (Ev.assign (Opd.mk rfl)) rfl ?_
              refine St.nil ?_
              refine St.then_normal ?_
              refine St.againH (k + 1) (by omega) (by first | omega | (dsimp only; omega)) (by repeat (first | exact Sub.nil | refine Sub.cons (by first | rfl | exact congrArg (fun z => some (iv z)) (by first | omega | (dsimp only; omega)) | exact congrArg (fun z => some (Value.bool z)) (by first | assumption | exact Eq.symm (by assumption))) ?_)) (fun _ hw => hw.sub)
          · skip
            try simp only [Bool.and_true, Bool.true_and, decide_eq_true_eq, decide_eq_false_iff_not, Bool.and_eq_true, Bool.or_eq_true, Bool.and_eq_false_iff, Bool.or_eq_false_iff, Bool.not_eq_true', Bool.not_eq_false', beq_iff_eq, beq_eq_false_iff_ne, Int.not_lt, Int.not_le] at h98
            have hkk : k = R.length := by omega
            have hany : ((R.take k).any fun r => decide (r = rowOf ks a)) = true := by rw [List.take_of_length_le (by omega), List.any_eq_true]; exact ⟨_, (hmem _).2 ⟨a, List.mem_of_getElem? ha, rfl⟩, decide_eq_true rfl⟩
            refine St.exit ?_
            refine St.then_exit ?_
            refine St.then_exit ?_
            refine St.in_hit ?_
            refine St.then_normal ?_
            refine St.seq ?_
            refine St.rg ?_
            refine St.ev _ (Ev.move (Opd.mk rfl)) rfl ?_
            refine St.ev _ (Ev.not (Opd.mk rfl)) rfl ?_
            refine St.nil ?_
            refine St.then_normal ?_
            refine St.condf _ rfl (by rw [hany]; rfl) ?_
            refine St.skip ?_
            refine St.in_normal ?_
            refine St.then_normal ?_
            refine St.rg ?_
            refine St.ev _ (Ev.move (Opd.mk rfl)) rfl ?_
            refine St.ev _ (Ev.add (Opd.mk rfl) (Opd.mk rfl) (by omega)) rfl ?_
            refine St.ev _ (Ev.assign (Opd.mk rfl)) rfl ?_
            refine St.nil ?_
            refine St.then_normal ?_
            rw [hkk]
            refine St.againH (j + 1, updF R (rowOf ks a) F R.length) ⟨by show j + 1 ≤ _; omega, hcn.step ha⟩ (by first | omega | (dsimp only; omega)) (by repeat (first | exact Sub.nil | refine Sub.cons (by first | rfl | exact congrArg (fun z => some (iv z)) (by first | omega | (dsimp only; omega)) | exact congrArg (fun z => some (Value.bool z)) (by first | assumption | exact Eq.symm (by assumption))) ?_)) (fun _ hw => hw.sub)
      · skip
        try simp only [Bool.and_true, Bool.true_and, decide_eq_true_eq, decide_eq_false_iff_not, Bool.and_eq_true, Bool.or_eq_true, Bool.and_eq_false_iff, Bool.or_eq_false_iff, Bool.not_eq_true', Bool.not_eq_false', beq_iff_eq, beq_eq_false_iff_ne, Int.not_lt, Int.not_le] at h69
        refine St.exit ?_
        refine St.then_exit ?_
        refine St.then_exit ?_
        refine St.in_hit ?_
        refine St.then_normal ?_
        refine St.seq ?_
        refine St.seq ?_
        refine St.rg ?_
        refine St.ev _ (Ev.assign (Opd.mk rfl)) rfl ?_
        refine St.nil ?_
        refine St.then_normal ?_
        refine St.block ?_
        refine St.loopS (ι := Nat) (fun k T => (16, iv k) :: T) (fun k => k ≤ vs.length) (fun k => vs.length - k) 0 (Keep.cons 10 rfl Keep.nil) (Nat.zero_le _) (by repeat (first | exact Sub.nil | refine Sub.cons (by first | rfl | exact congrArg (fun z => some (iv z)) (by first | omega | (dsimp only; omega)) | exact congrArg (fun z => some (Value.bool z)) (by first | assumption | exact Eq.symm (by assumption))) ?_)) ?_
        intro k hphi
        refine St.seq ?_
        refine St.seq ?_
        refine St.rg ?_
        refine St.ev _ (Ev.move (Opd.mk rfl)) rfl ?_
        refine St.ev _ (Ev.move (Opd.mk rfl)) rfl ?_
        refine St.ev _ (Ev.lenrow (Opd.mk rfl) Try.underlying24) rfl ?_
        refine St.ev _ (Ev.lss (Opd.mk rfl) (Opd.mk rfl)) rfl ?_
        refine St.nil ?_
        refine St.then_normal ?_
        refine St.cond _ rfl (fun h118 => ?_) (fun h118 => ?_)
        · skip
          try simp only [Bool.and_true, Bool.true_and, decide_eq_true_eq, decide_eq_false_iff_not, Bool.and_eq_true, Bool.or_eq_true, Bool.and_eq_false_iff, Bool.or_eq_false_iff, Bool.not_eq_true', Bool.not_eq_false', beq_iff_eq, beq_eq_false_iff_ne, Int.not_lt, Int.not_le] at h118
          have hFp := hcn.pos (show (good rules ks).length ≤ j by omega) hmem (show k < R.length by omega)
          refine St.skip ?_
          refine St.then_normal ?_
          refine St.seq ?_
          refine St.block ?_
          refine St.seq ?_
          refine St.rg ?_
          refine St.ev _ (Ev.move (Opd.mk rfl)) rfl ?_
          refine St.ev _ (Ev.move (Opd.mk rfl)) rfl ?_
          refine St.ev _ (Ev.idxaddrrow (k := k) (Opd.mk rfl) (Opd.mk rfl) Try.underlying24 sz3 (by omega) (by omega)) rfl ?_
          refine St.ev _ (Ev.ldrow (Opd.mk rfl) Try.underlying3 trivial (by omega) (rowI (by omega))) rfl ?_
          refine St.ev _ (Ev.eql (Opd.mk rfl) (Opd.mk rfl)) rfl ?_
          refine St.nil ?_
          refine St.then_normal ?_
          refine St.condf _ rfl (decide_eq_false hFp) ?_
          refine St.skip ?_
          refine St.in_normal ?_
          refine St.then_normal ?_
          refine St.rg ?_
          refine St.ev _ (Ev.move (Opd.mk rfl)) rfl ?_
          refine St.ev _ (Ev.add (Opd.mk rfl) (Opd.mk rfl) (by omega)) rfl ?_
          refine St.ev _ (Ev.assign (Opd.mk rfl)) rfl ?_
          refine St.nil ?_
          refine St.then_normal ?_
          refine St.againS (k + 1) (by omega) (by first | omega | (dsimp only; omega)) (by repeat (first | exact Sub.nil | refine Sub.cons (by first | rfl | exact congrArg (fun z => some (iv z)) (by first | omega | (dsimp only; omega)) | exact congrArg (fun z => some (Value.bool z)) (by first | assumption | exact Eq.symm (by assumption))) ?_)) (fun _ hw => hw.sub)
        · skip
          try simp only [Bool.and_true, Bool.true_and, decide_eq_true_eq, decide_eq_false_iff_not, Bool.and_eq_true, Bool.or_eq_true, Bool.and_eq_false_iff, Bool.or_eq_false_iff, Bool.not_eq_true', Bool.not_eq_false', beq_iff_eq, beq_eq_false_iff_ne, Int.not_lt, Int.not_le] at h118
          refine St.exit ?_
          refine St.then_exit ?_
          refine St.then_exit ?_
          refine St.in_hit ?_
          refine St.then_normal ?_
          refine St.seq ?_
          refine St.rg ?_
          refine St.ev _ (Ev.assign (Opd.mk rfl)) rfl ?_
          refine St.nil ?_
          refine St.then_normal ?_
          refine St.rett ?_
          refine St.rets [_] [] Try.results7 ⟨rfl, trivial⟩ ?_ (fun _ hw => hw.sub)
          rfl

theorem law8_spec (v0 v1 : Value) (rules : List Prec) (ks : List Str) : FnV Try.prog 8 #[v0, v1] [sl precR v0 rules, sl strR v1 ks] (.bool true) := by
  refine FnV.body2 (args := [v0, v1]) 66 Try.func8 rfl Try.ntmps8 rfl (fun c => ?_)
  refine St.seq ?_
  refine St.wf v1 (fun hwf1 hlen1 => ?_)
  refine St.rg ?_
  refine St.ev _ (Ev.assign (Opd.mk rfl)) rfl ?_
  refine St.nil ?_
  refine St.then_normal ?_
  refine St.seq ?_
  refine St.seq ?_
  refine St.rg ?_
  refine St.ev _ (Ev.call (orderReady_spec) cb9 (Opds.nil)) rfl ?_
  refine St.ev _ (Ev.not (Opd.mk rfl)) rfl ?_
  refine St.nil ?_
  refine St.then_normal ?_
  refine St.condf _ rfl rfl ?_
  refine St.skip ?_
  refine St.then_normal ?_
  refine St.seq ?_
  refine St.rg ?_
  refine St.ev _ (Ev.move (Opd.mk rfl)) rfl ?_
  refine St.ev _ (Ev.move (Opd.mk rfl)) rfl ?_
  refine St.calld (Rows_spec v0 v1 rules ks) cb21 (Opds.cons (Opd.mk rfl) (Opds.cons (Opd.mk rfl) Opds.nil)) rfl ?_
  rintro v18 _ ⟨vo, vs, R, rfl, hvl, hR, rfl⟩
  refine St.app2 ?_
  refine St.ev _ (Ev.move (Opd.mk rfl)) rfl ?_
  refine St.ev _ (Ev.extract (Opd.mk rfl) rfl) rfl ?_
  refine St.ev _ (Ev.extract (Opd.mk rfl) rfl) rfl ?_
  refine St.alloc zc27 rfl (fun b6 => ?_)
  refine St.ev _ (Ev.assign (Opd.mk rfl)) rfl ?_
  refine St.storeA (Opd.mk rfl) (Opd.mk rfl) sz27 (by first | simp only [List.length_cons, List.length_nil] | rfl) rfl ?_
  refine St.nil ?_
  refine St.then_normal ?_
  refine St.seq ?_
  refine St.rg ?_
  refine St.ev _ (Ev.move (Opd.mk rfl)) rfl ?_
  refine St.ev _ (Ev.move (Opd.mk rfl)) rfl ?_
  refine St.calld (Count_spec v0 v1 rules ks) cb17 (Opds.cons (Opd.mk rfl) (Opds.cons (Opd.mk rfl) Opds.nil)) rfl ?_
  rintro v24 _ ⟨rfl, rfl⟩
  refine St.app0 ?_
  refine St.ev _ (Ev.move (Opd.mk rfl)) rfl ?_
  refine St.ev _ (Ev.extract (Opd.mk rfl) rfl) rfl ?_
  refine St.ev _ (Ev.extract (Opd.mk rfl) rfl) rfl ?_
  refine St.alloc zc27 rfl (fun b8 => ?_)
  refine St.ev _ (Ev.assign (Opd.mk rfl)) rfl ?_
  refine St.storeA (Opd.mk rfl) (Opd.mk rfl) sz27 (by first | simp only [List.length_cons, List.length_nil] | rfl) rfl ?_
  refine St.nil ?_
  refine St.then_normal ?_
  refine St.seq ?_
  refine St.seq ?_
  refine St.rg ?_
  refine St.ev _ (Ev.fldb0 (Opd.mk rfl) fo27_0) rfl ?_
  refine St.ev _ (Ev.ldb (Opd.mk rfl) Try.underlying3 trivial (by rfl)) rfl ?_
  refine St.ev _ (Ev.neq (Opd.mk rfl) (Opd.mk rfl)) rfl ?_
  refine St.ev _ (Ev.move (Opd.mk rfl)) rfl ?_
  refine St.gf _ rfl rfl (fun hg => Ev.fldb0 (Opd.mk rfl) fo27_0) rfl ?_
  refine St.gf _ rfl rfl (fun hg => Ev.ldb (Opd.gv rfl hg) Try.underlying3 trivial (by rfl)) rfl ?_
  refine St.gf _ rfl rfl (fun hg => Ev.neq (Opd.gv rfl hg) (Opd.mk rfl)) rfl ?_
  refine St.ev _ (Ev.or (Opd.mk rfl) (fun hp => Opd.gv rfl hp)) rfl ?_
  refine St.nil ?_
  refine St.then_normal ?_
  refine St.cond _ rfl (fun h34 => ?_) (fun h34 => ?_)
  · skip
    try simp only [Bool.and_true, Bool.true_and, decide_eq_true_eq, decide_eq_false_iff_not, Bool.and_eq_true, Bool.or_eq_true, Bool.and_eq_false_iff, Bool.or_eq_false_iff, Bool.not_eq_true', Bool.not_eq_false', beq_iff_eq, beq_eq_false_iff_ne, Int.not_lt, Int.not_le] at h34
    refine St.seq ?_
    refine St.rg ?_
    refine St.ev _ (Ev.assign (Opd.mk rfl)) rfl ?_
    refine St.nil ?_
    refine St.then_normal ?_
    refine St.rett ?_
    refine St.then_ret ?_
    refine St.rets [_] [] Try.results8 ⟨rfl, trivial⟩ ?_ (fun _ hw => hw.sub)
    exact be rfl
  · skip
    try simp only [Bool.and_true, Bool.true_and, decide_eq_true_eq, decide_eq_false_iff_not, Bool.and_eq_true, Bool.or_eq_true, Bool.and_eq_false_iff, Bool.or_eq_false_iff, Bool.not_eq_true', Bool.not_eq_false', beq_iff_eq, beq_eq_false_iff_ne, Int.not_lt, Int.not_le] at h34
    have hcz : (chk rules ks).1 = 0 := by omega
    obtain ⟨hpw, hmem⟩ := hR.ok hcz
    obtain ⟨hr, hks⟩ := chk_ok hcz
    have hgs := good_small (rules := rules) (ks := ks) (by omega)
    have hfew := rows_few hpw hmem
    have hcnt := rows_count hpw hmem
    have eC : countOf rules ks = (((good rules ks).length : Int), (0, 0)) := by rw [countOf_eq, if_neg (by omega)]
    rw [eC]
    refine St.skip ?_
    refine St.then_normal ?_
    refine St.seq ?_
    refine St.rg ?_
    refine St.ev _ (Ev.assign (Opd.mk rfl)) rfl ?_
    refine St.nil ?_
    refine St.then_normal ?_
    refine St.seq ?_
    refine St.seq ?_
    refine St.rg ?_
    refine St.ev _ (Ev.assign (Opd.mk rfl)) rfl ?_
    refine St.nil ?_
    refine St.then_normal ?_
    refine St.block ?_
    refine St.loopS (ι := Nat) (fun i T => (10, iv i) :: (9, iv ((waysS (ks.take i).reverse) : Nat)) :: T) (fun i => i ≤ ks.length) (fun i => ks.length - i) 0 (Keep.cons 1 rfl (Keep.cons 4 rfl (Keep.cons 5 rfl (Keep.cons 7 rfl Keep.nil)))) (Nat.zero_le _) (by repeat (first | exact Sub.nil | refine Sub.cons (by first | rfl | exact congrArg (fun z => some (iv z)) (by first | omega | (dsimp only; omega)) | exact congrArg (fun z => some (Value.bool z)) (by first | assumption | exact Eq.symm (by assumption))) ?_)) ?_
    intro i hphi
    refine St.seq ?_
    refine St.seq ?_
    refine St.rg ?_
    refine St.ev _ (Ev.move (Opd.mk rfl)) rfl ?_
    refine St.ev _ (Ev.move (Opd.mk rfl)) rfl ?_
    refine St.ev _ (Ev.lensl (Opd.mk rfl) Try.underlying23) rfl ?_
    refine St.ev _ (Ev.lss (Opd.mk rfl) (Opd.mk rfl)) rfl ?_
    refine St.nil ?_
    refine St.then_normal ?_
    refine St.cond _ rfl (fun h38 => ?_) (fun h38 => ?_)
    · skip
      try simp only [Bool.and_true, Bool.true_and, decide_eq_true_eq, decide_eq_false_iff_not, Bool.and_eq_true, Bool.or_eq_true, Bool.and_eq_false_iff, Bool.or_eq_false_iff, Bool.not_eq_true', Bool.not_eq_false', beq_iff_eq, beq_eq_false_iff_ne, Int.not_lt, Int.not_le] at h38
      obtain ⟨s, hs⟩ := some_of_lt (show i < ks.length by omega)
      have hst := ways_step hs
      have htp := waysS_top (l := (ks.take (i + 1)).reverse) (by rw [List.length_reverse, List.length_take]; omega)
      rw [Nat.mul_comm] at hst
      refine St.skip ?_
      refine St.then_normal ?_
      refine St.seq ?_
      refine St.block ?_
      refine St.seq ?_
      refine St.rg ?_
      refine St.ev _ (Ev.assign (Opd.mk rfl)) rfl ?_
      refine St.nil ?_
      refine St.then_normal ?_
      refine St.seq ?_
      refine St.seq ?_
      refine St.rg ?_
      refine St.ev _ (Ev.assign (Opd.mk rfl)) rfl ?_
      refine St.nil ?_
      refine St.then_normal ?_
      refine St.block ?_
      have hc0 : (ks.take 0).count s = 0 := rfl
      refine St.loopS (ι := Nat) (fun k T => (12, iv k) :: (11, iv (((ks.take k).count s : Nat) + 1)) :: T) (fun k => k ≤ i) (fun k => i - k) 0 (Keep.cons 1 rfl (Keep.cons 4 rfl (Keep.cons 5 rfl (Keep.cons 7 rfl (Keep.cons 9 rfl (Keep.cons 10 rfl Keep.nil)))))) (Nat.zero_le _) (by repeat (first | exact Sub.nil | refine Sub.cons (by first | rfl | exact congrArg (fun z => some (iv z)) (by first | omega | (dsimp only; omega)) | exact congrArg (fun z => some (Value.bool z)) (by first | assumption | exact Eq.symm (by assumption))) ?_)) ?_
      intro k hphi
      have hcl : (ks.take k).count s ≤ 7 := Nat.le_trans List.count_le_length (by rw [List.length_take]; omega)
      refine St.seq ?_
      refine St.seq ?_
      refine St.rg ?_
      refine St.ev _ (Ev.move (Opd.mk rfl)) rfl ?_
      refine St.ev _ (Ev.move (Opd.mk rfl)) rfl ?_
      refine St.ev _ (Ev.lss (Opd.mk rfl) (Opd.mk rfl)) rfl ?_
      refine St.nil ?_
      refine St.then_normal ?_
      refine St.cond _ rfl (fun h43 => ?_) (fun h43 => ?_)
      · skip
        try simp only [Bool.and_true, Bool.true_and, decide_eq_true_eq, decide_eq_false_iff_not, Bool.and_eq_true, Bool.or_eq_true, Bool.and_eq_false_iff, Bool.or_eq_false_iff, Bool.not_eq_true', Bool.not_eq_false', beq_iff_eq, beq_eq_false_iff_ne, Int.not_lt, Int.not_le] at h43
        obtain ⟨x, hx⟩ := some_of_lt (show k < ks.length by omega)
        have hck : (ks.take (k + 1)).count s = (ks.take k).count s + if x == s then 1 else 0 := by rw [take_of_some hx, List.count_append, List.count_singleton]
        refine St.skip ?_
        refine St.then_normal ?_
        refine St.seq ?_
        refine St.block ?_
        refine St.seq ?_
        refine St.rq mixed (by kernel_rfl) (Mm.drawn _ _) ?_
        refine Sq.ev _ (Ev.move (Opd.mk rfl)) rfl ?_
        refine Sq.ev _ (Ev.move (Opd.mk rfl)) rfl ?_
        refine Sq.ev _ (Ev.idxaddr  (Opd.mk rfl) (Opd.mk rfl) Try.underlying23 sz9 rfl (by omega)) rfl ?_
        refine Sq.ev _ (Ev.ld1 (Opd.mk rfl) hx Try.underlying9 trivial rfl) rfl ?_
        refine Sq.ev _ (Ev.move (Opd.mk rfl)) rfl ?_
        refine Sq.ev _ (Ev.move (Opd.mk rfl)) rfl ?_
        refine Sq.ev _ (Ev.idxaddr  (Opd.mk rfl) (Opd.mk rfl) Try.underlying23 sz9 rfl (by omega)) rfl ?_
        refine Sq.ev _ (Ev.ld1 (Opd.mk rfl) hs Try.underlying9 trivial rfl) rfl ?_
        refine Sq.ev _ (Ev.streq (Opd.mk rfl) (Opd.mk rfl)) rfl ?_
        refine Sq.nil ?_
        refine St.then_normal ?_
        refine St.cond _ rfl (fun h54 => ?_) (fun h54 => ?_)
        · skip
          skip
          rw [if_pos h54] at hck
          refine St.rg ?_
          refine St.ev _ (Ev.move (Opd.mk rfl)) rfl ?_
          refine St.ev _ (Ev.add (Opd.mk rfl) (Opd.mk rfl) (by omega)) rfl ?_
          refine St.ev _ (Ev.assign (Opd.mk rfl)) rfl ?_
          refine St.nil ?_
          refine St.in_normal ?_
          refine St.then_normal ?_
          refine St.rg ?_
          refine St.ev _ (Ev.move (Opd.mk rfl)) rfl ?_
          refine St.ev _ (Ev.add (Opd.mk rfl) (Opd.mk rfl) (by omega)) rfl ?_
          refine St.ev _ (Ev.assign (Opd.mk rfl)) rfl ?_
          refine St.nil ?_
          refine St.then_normal ?_
          refine St.againS (k + 1) (by omega) (by first | omega | (dsimp only; omega)) (by repeat (first | exact Sub.nil | refine Sub.cons (by first | rfl | exact congrArg (fun z => some (iv z)) (by first | omega | (dsimp only; omega)) | exact congrArg (fun z => some (Value.bool z)) (by first | assumption | exact Eq.symm (by assumption))) ?_)) (fun _ hw => hw.sub)
        · skip
          skip
          rw [if_neg (by rw [h54]; decide)] at hck
          refine St.skip ?_
          refine St.in_normal ?_
          refine St.then_normal ?_
          refine St.rg ?_
          refine St.ev _ (Ev.move (Opd.mk rfl)) rfl ?_
          refine St.ev _ (Ev.add (Opd.mk rfl) (Opd.mk rfl) (by omega)) rfl ?_
          refine St.ev _ (Ev.assign (Opd.mk rfl)) rfl ?_
          refine St.nil ?_
          refine St.then_normal ?_
          refine St.againS (k + 1) (by omega) (by first | omega | (dsimp only; omega)) (by repeat (first | exact Sub.nil | refine Sub.cons (by first | rfl | exact congrArg (fun z => some (iv z)) (by first | omega | (dsimp only; omega)) | exact congrArg (fun z => some (Value.bool z)) (by first | assumption | exact Eq.symm (by assumption))) ?_)) (fun _ hw => hw.sub)
      · skip
        try simp only [Bool.and_true, Bool.true_and, decide_eq_true_eq, decide_eq_false_iff_not, Bool.and_eq_true, Bool.or_eq_true, Bool.and_eq_false_iff, Bool.or_eq_false_iff, Bool.not_eq_true', Bool.not_eq_false', beq_iff_eq, beq_eq_false_iff_ne, Int.not_lt, Int.not_le] at h43
        obtain rfl : k = i := by omega
        have hcs : (((waysS (ks.take k).reverse) : Nat) : Int) * (((ks.take k).count s : Nat) + 1) = (((waysS (ks.take k).reverse) * ((ks.take k).count s + 1) : Nat) : Int) := by rw [Int.natCast_mul, Int.natCast_add]; rfl
        refine St.exit ?_
        refine St.then_exit ?_
        refine St.then_exit ?_
        refine St.in_hit ?_
        refine St.then_normal ?_
        refine St.rg ?_
        refine St.ev _ (Ev.move (Opd.mk rfl)) rfl ?_
        refine St.ev _ (Ev.move (Opd.mk rfl)) rfl ?_
        refine St.ev _ (Ev.mul (Opd.mk rfl) (Opd.mk rfl) (by rw [hcs, ← hst]; omega)) rfl ?_
        refine St.slot 59 (iv ((waysS (ks.take (k + 1)).reverse) : Nat)) rfl (by rw [hcs, ← hst]) ?_
        refine St.ev _ (Ev.assign (Opd.mk rfl)) rfl ?_
        refine St.nil ?_
        refine St.in_normal ?_
        refine St.then_normal ?_
        refine St.rg ?_
        refine St.ev _ (Ev.move (Opd.mk rfl)) rfl ?_
        refine St.ev _ (Ev.add (Opd.mk rfl) (Opd.mk rfl) (by omega)) rfl ?_
        refine St.ev _ (Ev.assign (Opd.mk rfl)) rfl ?_
        refine St.nil ?_
        refine St.then_normal ?_
        refine St.againS (k + 1) (by omega) (by first | omega | (dsimp only; omega)) (by repeat (first | exact Sub.nil | refine Sub.cons (by first | rfl | exact congrArg (fun z => some (iv z)) (by first | omega | (dsimp only; omega)) | exact congrArg (fun z => some (Value.bool z)) (by first | assumption | exact Eq.symm (by assumption))) ?_)) (fun _ hw => hw.sub)
    · skip
      try simp only [Bool.and_true, Bool.true_and, decide_eq_true_eq, decide_eq_false_iff_not, Bool.and_eq_true, Bool.or_eq_true, Bool.and_eq_false_iff, Bool.or_eq_false_iff, Bool.not_eq_true', Bool.not_eq_false', beq_iff_eq, beq_eq_false_iff_ne, Int.not_lt, Int.not_le] at h38
      have hwe := ways_end (ks := ks) (show ks.length ≤ i by omega)
      have hwt := waysS_top hks
      refine St.exit ?_
      refine St.then_exit ?_
      refine St.then_exit ?_
      refine St.in_hit ?_
      refine St.then_normal ?_
      refine St.seq ?_
      refine St.rg ?_
      refine St.ev _ (Ev.move (Opd.mk rfl)) rfl ?_
      refine St.ev _ (Ev.move (Opd.mk rfl)) rfl ?_
      refine St.ev _ (Ev.lensl (Opd.mk rfl) Try.underlying48) rfl ?_
      refine St.ev _ (Ev.move (Opd.mk rfl)) rfl ?_
      refine St.ev _ (Ev.mul (Opd.mk rfl) (Opd.mk rfl) (by rw [hwe, ← Int.natCast_mul, hvl, ← hcnt]; omega)) rfl ?_
      refine St.ev _ (Ev.eql (Opd.mk rfl) (Opd.mk rfl)) rfl ?_
      refine St.ev _ (Ev.assign (Opd.mk rfl)) rfl ?_
      refine St.nil ?_
      refine St.then_normal ?_
      refine St.rett ?_
      refine St.rets [_] [] Try.results8 ⟨rfl, trivial⟩ ?_ (fun _ hw => hw.sub)
      exact be (by rw [hwe, ← Int.natCast_mul, hvl, ← hcnt]; simp)

end Go.Proofs.Ytblnbjlcpleaaaa
