/-
  The different rows of kinds, as the code lists them.
  Conditions: few elements.
-/
import Derived.Test.YtblnbjlcpleaaaaW12
set_option linter.unusedSimpArgs false
set_option linter.unusedVariables false
namespace Go.Proofs.Ytblnbjlcpleaaaa
open Go Go.J

/-- the rows collected so far -/
def SpR (d b : Nat) (v1 : Value) (s : List (List Str)) (L : List Ent) : Prop :=
  (∀ r ∈ s, ∀ x ∈ r, x.length ≤ 9223372036854775807) ∧ ∃ (vo : Value) (ps : List (OneV × List Str)), s = (ps.map Prod.snd).reverse ∧ L = blk d (.cells #[v1] 23 (0, 0)) :: blk b (.cells #[vo] 48 (0, 0)) :: row vo 23 1 ps.length (rows valR (ps.map Prod.fst).reverse) :: owned 9 strR ps
theorem SpR_solid (d b : Nat) (v1 : Value) (s : List (List Str)) (L : List Ent) (h : SpR d b v1 s L) : Solid L := by
  obtain ⟨_, vo, ps, _, rfl⟩ := h
  exact Solid.blk (Solid.blk (Solid.row (Solid.owned ps)))
def ynR (ks : List Str) (s : List (List Str)) (l : List Int) : List (List Str) := s ++ [rowOf ks l]
def IvR (c : Nat) (s : List (List Str)) : Prop := s.length + c ≤ 900000
theorem runW_rows (ks : List Str) : ∀ (L : List (List Int)) (s : List (List Str)), (runW (fun _ _ => true) (ynR ks) L s).2 = s ++ L.map (rowOf ks)
  | [], s => by simp [runW]
  | l :: L, s => by simp only [runW, if_true]; rw [runW_rows ks L]; simp [ynR]
theorem leafN_le {n : Nat} (h : n ≤ 7) : ∀ m, leafN n m ≤ 7 ^ m
  | 0 => Nat.le_refl _
  | m + 1 => by rw [leafN, Nat.pow_succ, Nat.mul_comm]; exact Nat.mul_le_mul (leafN_le h m) h
theorem leafN_top {n : Nat} (h : n ≤ 7) : leafN n n ≤ 823543 := by
  have h1 := leafN_le h n
  have h2 : 7 ^ n ≤ 7 ^ 7 := Nat.pow_le_pow_right (by decide) h
  have h3 : (7 : Nat) ^ 7 = 823543 := by decide
  omega
/-- the rows of all orders, one by one -/
def allR (rules : List Prec) (ks : List Str) : List (List Str) := (good rules ks).map (rowOf ks)
theorem walk_rows (rules : List Prec) (ks : List Str) : (walkF rules ks (fun _ _ => true) (ynR ks) ks.length [] []).2 = allR rules ks := by
  rw [walkF_eq, runW_rows]; rfl
/-- what is said of the different rows -/
def RowsP (rules : List Prec) (ks : List Str) (R : List (List Str)) : Prop :=
  ((chk rules ks).1 ≠ 0 ∧ R = []) ∨ ((chk rules ks).1 = 0 ∧ R.Pairwise (fun a b => wlt a b = true) ∧ ∀ r, r ∈ R ↔ ∃ x ∈ good rules ks, rowOf ks x = r)
theorem rows_of {rules : List Prec} {ks : List Str} {idx : List Nat} (hc : (chk rules ks).1 = 0) (hp : idx.Perm (List.range (allR rules ks).length)) (hs : idx.Pairwise (fun a b => ¬ wcmp ((allR rules ks).getD b []) ((allR rules ks).getD a []) < 0)) :
    RowsP rules ks ((dd (eqf fun i => (allR rules ks).getD i []) idx).map fun i => (allR rules ks).getD i []) := by
  have hs2 : idx.Pairwise (fun a b => wlt ((allR rules ks).getD b []) ((allR rules ks).getD a []) = false) := hs.imp fun {a b} h => by
    cases hw : wlt ((allR rules ks).getD b []) ((allR rules ks).getD a []) with
    | false => rfl
    | true => exact absurd (wcmp_lt.2 hw) h
  obtain ⟨d1, d2⟩ := dd_inc (fun i => (allR rules ks).getD i []) hs2
  refine .inr ⟨hc, List.pairwise_map.2 d1, fun r => ?_⟩
  have hmem : ∀ i, i ∈ idx ↔ i < (allR rules ks).length := fun i => by rw [hp.mem_iff, List.mem_range]
  constructor
  · intro h
    obtain ⟨i, hi, rfl⟩ := List.mem_map.1 h
    have hlt := (hmem i).1 (dd_sub _ hi)
    have h1 : (allR rules ks).getD i [] ∈ allR rules ks := by rw [List.getD_eq_getElem?_getD, List.getElem?_eq_getElem hlt]; exact List.getElem_mem hlt
    obtain ⟨x, hx, he⟩ := List.mem_map.1 h1
    exact ⟨x, hx, he⟩
  · rintro ⟨x, hx, rfl⟩
    obtain ⟨i, hi, he⟩ := List.mem_iff_getElem.1 (List.mem_map_of_mem (f := rowOf ks) hx)
    have he2 : (allR rules ks).getD i [] = rowOf ks x := by show ((good rules ks).map (rowOf ks)).getD i [] = _; rw [List.getD_eq_getElem?_getD, List.getElem?_eq_getElem hi]; exact he
    obtain ⟨j, hj, hej⟩ := d2 i ((hmem i).2 hi)
    rw [← he2, ← hej]
    exact List.mem_map_of_mem hj
theorem rowOf_wf2 {ks : List Str} (h : ∀ x ∈ ks, x.length ≤ 9223372036854775807) (l : List Int) : ∀ x ∈ rowOf ks l, x.length ≤ 9223372036854775807 := by
  intro x hx
  obtain ⟨i, _, rfl⟩ := List.mem_map.1 hx
  rw [List.getD_eq_getElem?_getD]
  cases hk : ks[i.toNat]? with
  | none => exact Nat.zero_le _
  | some y => exact h y (List.mem_of_getElem? hk)
theorem vals_idx (vs : List OneV) : rows valR vs = (List.range vs.length).map (fun i => (vs.map Subtype.val).getD i undef) := by
  rw [rows_valR]
  apply List.ext_getElem
  · simp
  · intro i h1 h2
    simp [List.getD_eq_getElem?_getD, List.getElem?_eq_getElem (show i < vs.length by simpa using h1)]
theorem vs_at {vs : List OneV} {i : Nat} (h : i < vs.length) : ∃ u : OneV, vs[i]? = some u ∧ (vs.map Subtype.val).getD i undef = u.1 := by
  refine ⟨vs[i], List.getElem?_eq_getElem h, ?_⟩
  simp [List.getD_eq_getElem?_getD, List.getElem?_eq_getElem h]
theorem ptw_two {vs : List OneV} {R : List (List Str)} {a b : Nat} (ha : a < vs.length) (hb : b < vs.length) (hl : vs.length = R.length) {P : Program} {f : FuncId} {v : Value}
    (h : FnV P f #[(vs.map Subtype.val).getD a undef, (vs.map Subtype.val).getD b undef] [sl strR ((vs.map Subtype.val).getD a undef) (R.getD a []), sl strR ((vs.map Subtype.val).getD b undef) (R.getD b [])] v) :
    FnV P f #[(vs.map Subtype.val).getD a undef, (vs.map Subtype.val).getD b undef] [ptw strR vs R] v := h.weak fun ρ hf d hd => by
  have hw := hf _ (List.mem_singleton_self _)
  have one : ∀ i, i < vs.length → (sl strR ((vs.map Subtype.val).getD i undef) (R.getD i [])).f ρ := by
    intro i hi
    obtain ⟨u, hu, he⟩ := vs_at hi
    rw [he]
    exact hw i u _ hu (some_getD [] (by omega))
  rcases List.mem_cons.1 hd with rfl | hd
  · exact one a ha
  · obtain rfl := List.mem_singleton.1 hd
    exact one b hb
theorem ptw_sub {vs : List OneV} {R : List (List Str)} {ρ : Ro} (h : (ptw strR vs R).f ρ) (hl : vs.length = R.length) {js : List Nat} (hj : ∀ j ∈ js, j < vs.length) (d : OneV) : (ptw strR (js.map fun j => vs.getD j d) (js.map fun j => R.getD j [])).f ρ := by
  intro i u l hu hl2
  rw [List.getElem?_map] at hu hl2
  cases hi : js[i]? with
  | none => rw [hi] at hu; cases hu
  | some j =>
    rw [hi] at hu hl2
    simp only [Option.map_some, Option.some.injEq] at hu hl2
    subst hu; subst hl2
    have hjl := hj j (List.mem_of_getElem? hi)
    exact h j _ _ (some_getD d hjl) (some_getD [] (by omega))
theorem rows_sub {vs : List OneV} {js : List Nat} (hj : ∀ j ∈ js, j < vs.length) (d : OneV) : js.map (fun i => (vs.map Subtype.val).getD i undef) = rows valR (js.map fun j => vs.getD j d) := by
  rw [rows_valR, List.map_map]
  apply List.map_congr_left
  intro j hjm
  obtain ⟨u, hu, he⟩ := vs_at (hj j hjm)
  rw [he, Function.comp_apply, List.getD_eq_getElem?_getD, hu]; rfl

theorem Rows1_spec (d b : Nat) (v1 : Value) (ks : List Str) (hks : ks.length ≤ 7) : Takes 36 [.pointer (some ⟨d, 0, none⟩), .pointer (some ⟨b, 0, none⟩)] (SpR d b v1) (fun _ _ => true) (ynR ks) IvR ks.length (sl strR v1 ks) := by
  rintro s L v l hI ⟨hbd, vo, ps, rfl, rfl⟩ hll hl
  have hl7 : l.length ≤ 7 := by omega
  have hI : ps.length + 1 ≤ 900000 := by simpa [IvR] using hI
  refine FnH.body (args := [v, .pointer (some ⟨d, 0, none⟩), .pointer (some ⟨b, 0, none⟩)]) 30 Try.func36 rfl Try.ntmps36 rfl (fun c => ?_)
  refine St.seq ?_
  refine St.appl ?_
  refine St.wf v1 (fun hwf hlen => ?_)
  refine St.rg ?_
  refine St.ev _ (Ev.assign (Opd.mk rfl)) rfl ?_
  refine St.nil ?_
  refine St.then_normal ?_
  refine St.seq ?_
  refine St.rg ?_
  refine St.ev _ (Ev.move (Opd.mk rfl)) rfl ?_
  refine St.ev _ (Ev.lensl (Opd.mk rfl) Try.underlying24) rfl ?_
  refine St.makeSl (m := l.length) (Opd.mk rfl) (Opd.mk rfl) Try.underlying23 sz9 zv9 by9 rfl rfl (by omega) rfl rfl (fun b10 => ?_)
  refine St.ev _ (Ev.assign (Opd.mk rfl)) rfl ?_
  refine St.nil ?_
  refine St.then_normal ?_
  refine St.seq ?_
  refine St.seq ?_
  refine St.rg ?_
  refine St.ev _ (Ev.move (Opd.mk rfl)) rfl ?_
  refine St.ev _ (Ev.lensl (Opd.mk rfl) Try.underlying24) rfl ?_
  refine St.ev _ (Ev.move (Opd.mk rfl)) rfl ?_
  refine St.nil ?_
  refine St.then_normal ?_
  refine St.block ?_
  refine St.rowEq (.slice (some ⟨b10, 0, none⟩) l.length l.length) (show List.replicate l.length (sv []) = rows strR (rowTo ks l 0) by rw [rowTo_zero]; exact (rows_replicate rfl _).symm) ?_
  refine St.loopH (ι := Nat) (fun k T => (13, iv k) :: T) (fun k => row (.slice (some ⟨b10, 0, none⟩) l.length l.length) 9 1 l.length (rows strR (rowTo ks l k)) :: dat (sl intR v l) :: dat (sl strR v1 ks) :: blk d (.cells #[v1] 23 (0, 0)) :: blk b (.cells #[vo] 48 (0, 0)) :: row vo 23 1 ps.length (rows valR (ps.map Prod.fst).reverse) :: owned 9 strR ps) (fun k => k ≤ l.length) (fun k => l.length - k) 0 (Keep.cons 1 rfl (Keep.cons 2 rfl (Keep.cons 4 rfl (Keep.cons 5 rfl (Keep.cons 11 rfl (Keep.cons 12 rfl Keep.nil)))))) (Nat.zero_le _) (by repeat (first | exact Sub.nil | refine Sub.cons (by first | rfl | exact congrArg (fun z => some (iv z)) (by first | omega | (dsimp only; omega)) | exact congrArg (fun z => some (Value.bool z)) (by first | assumption | exact Eq.symm (by assumption))) ?_)) (fun _ hw => hw.sub) ?_
  intro k hphi
  refine St.seq ?_
  refine St.rg ?_
  refine St.ev _ (Ev.lss (Opd.mk rfl) (Opd.mk rfl)) rfl ?_
  refine St.nil ?_
  refine St.then_normal ?_
  refine St.seq ?_
  refine St.cond _ rfl (fun h14 => ?_) (fun h14 => ?_)
  · skip
    try simp only [Bool.and_true, Bool.true_and, decide_eq_true_eq, decide_eq_false_iff_not, Bool.and_eq_true, Bool.or_eq_true, Bool.and_eq_false_iff, Bool.or_eq_false_iff, Bool.not_eq_true', Bool.not_eq_false', beq_iff_eq, beq_eq_false_iff_ne, Int.not_lt, Int.not_le] at h14
    have hlk := hl (l.getD k 0) (List.mem_of_getElem? (some_getD 0 (by omega)))
    refine St.skip ?_
    refine St.then_normal ?_
    refine St.seq ?_
    refine St.block ?_
    refine St.seq ?_
    refine St.rg ?_
    refine St.ev _ (Ev.move (Opd.mk rfl)) rfl ?_
    refine St.ev _ (Ev.idxaddr  (Opd.mk rfl) (Opd.mk rfl) Try.underlying24 sz3 rfl (by omega)) rfl ?_
    refine St.ev _ (Ev.ld1 (Opd.mk rfl) (by first | assumption | exact some_getD 0 (by omega)) Try.underlying3 trivial rfl) rfl ?_
    refine St.ev _ (Ev.assign (Opd.mk rfl)) rfl ?_
    refine St.ev _ (Ev.assign (Opd.mk rfl)) rfl ?_
    refine St.nil ?_
    refine St.then_normal ?_
    refine St.rg ?_
    refine St.ev _ (Ev.move (Opd.mk rfl)) rfl ?_
    refine St.ev _ (Ev.move (Opd.mk rfl)) rfl ?_
    refine St.ev _ (Ev.ldb (Opd.mk rfl) Try.underlying23 trivial (by rfl)) rfl ?_
    refine St.ev _ (Ev.move (Opd.mk rfl)) rfl ?_
    refine St.ev _ (Ev.idxaddr (k := (l.getD k 0).toNat) (Opd.mk rfl) (Opd.mk rfl) Try.underlying23 sz9 (by omega) (by omega)) rfl ?_
    refine St.ev _ (Ev.ld1 (Opd.mk rfl) (by first | assumption | exact some_getD [] (by omega)) Try.underlying9 trivial rfl) rfl ?_
    refine St.ev _ (Ev.idxaddrrow  (Opd.mk rfl) (Opd.mk rfl) Try.underlying23 sz9 rfl (by omega)) rfl ?_
    refine St.storerow (Opd.mk rfl) (Opd.mk rfl) sz9 rfl (by omega) (by decide) ?_
    refine St.nil ?_
    refine St.in_normal ?_
    refine St.then_normal ?_
    refine St.rg ?_
    refine St.ev _ (Ev.add (Opd.mk rfl) (Opd.mk rfl) (by omega)) rfl ?_
    refine St.ev _ (Ev.move (Opd.mk rfl)) rfl ?_
    refine St.nil ?_
    refine St.then_normal ?_
    refine St.rowEq (.slice (some ⟨b10, 0, none⟩) l.length l.length) (show _ = rows strR (rowTo ks l (k + 1)) by rw [Nat.mul_one, Nat.add_zero, rows_set1 (Rr := strR) rfl (x := ks.getD (l.getD k 0).toNat []) rfl, rowTo_succ ks l (by omega)]) ?_
    refine St.againH (k + 1) (by omega) (by first | omega | (dsimp only; omega)) (by repeat (first | exact Sub.nil | refine Sub.cons (by first | rfl | exact congrArg (fun z => some (iv z)) (by first | omega | (dsimp only; omega)) | exact congrArg (fun z => some (Value.bool z)) (by first | assumption | exact Eq.symm (by assumption))) ?_)) (fun _ hw => hw.sub)
  · skip
    try simp only [Bool.and_true, Bool.true_and, decide_eq_true_eq, decide_eq_false_iff_not, Bool.and_eq_true, Bool.or_eq_true, Bool.and_eq_false_iff, Bool.or_eq_false_iff, Bool.not_eq_true', Bool.not_eq_false', beq_iff_eq, beq_eq_false_iff_ne, Int.not_lt, Int.not_le] at h14
    refine St.exit ?_
    refine St.then_exit ?_
    refine St.then_exit ?_
    refine St.in_hit ?_
    refine St.then_normal ?_
    refine St.seq ?_
    have hbd2 : ∀ r ∈ ynR ks (ps.map Prod.snd).reverse l, ∀ x ∈ r, x.length ≤ 9223372036854775807 := by
      intro r hr
      rcases List.mem_append.1 hr with hr | hr
      · exact hbd r hr
      · obtain rfl := List.mem_singleton.1 hr; exact rowOf_wf2 hwf l
    refine St.rowEqN (.slice (some ⟨b10, 0, none⟩) l.length l.length) (show l.length = (rowOf ks l).length from (rowOf_length ks l).symm) (show _ = rows strR (rowOf ks l) by rw [rowTo_all ks l (by omega)]) ?_
    refine St.rg ?_
    refine St.ev _ (Ev.ldb (Opd.mk rfl) Try.underlying48 trivial (by rfl)) rfl ?_
    refine St.ev _ (Ev.move (Opd.mk rfl)) rfl ?_
    refine St.buildSl (xs := [(Operand.tmp 27)]) (ps := [(0, (Operand.tmp 27))]) rfl (Opds.cons (Opd.mk rfl) Opds.nil) Try.underlying48 sz23 zv23 rfl rfl (by simp [Value.cells]) rfl rfl (fun b28 => ?_)
    refine St.appendRow (Opd.mk rfl) (Opd.mk rfl) Try.underlying48 sz23 zv23 by23 (by simp [Value.cells, Value.oneCell']) (by omega) (by omega) rfl rfl rfl rfl (fun v29 hv29 => ?_)
    refine St.rowOne v29 (fun ho29 _ => ?_)
    refine St.rowEq v29 (show _ = rows valR ((((⟨(.slice (some ⟨b10, 0, none⟩) l.length l.length), rfl⟩ : OneV), rowOf ks l) :: ps).map Prod.fst).reverse by rw [rows_valR, rows_valR]; simp [Value.cells]) ?_
    refine St.store1 (Opd.mk rfl) (Opd.mk rfl) sz48 ho29 (by rfl) ?_
    refine St.nil ?_
    refine St.then_normal ?_
    refine St.seq ?_
    refine St.rg ?_
    refine St.ev _ (Ev.assign (Opd.mk rfl)) rfl ?_
    refine St.nil ?_
    refine St.then_normal ?_
    refine St.rett ?_
    refine St.rets [_] (blk d (.cells #[v1] 23 (0, 0)) :: blk b (.cells #[v29] 48 (0, 0)) :: row v29 23 1 (ps.length + 1) (rows valR ((((⟨(.slice (some ⟨b10, 0, none⟩) l.length l.length), rfl⟩ : OneV), rowOf ks l) :: ps).map Prod.fst).reverse) :: row (.slice (some ⟨b10, 0, none⟩) l.length l.length) 9 1 (rowOf ks l).length (rows strR (rowOf ks l)) :: owned 9 strR ps) Try.results36 ⟨rfl, trivial⟩ ?_ (fun _ hw => hw.sub)
    exact ⟨rfl, hbd2, v29, (((⟨(.slice (some ⟨b10, 0, none⟩) l.length l.length), rfl⟩ : OneV), rowOf ks l) :: ps), by simp only [ynR, List.map_cons, List.reverse_cons], rfl⟩

end Go.Proofs.Ytblnbjlcpleaaaa
