/-
  What Rows returns.
  Conditions: none.
-/
import Derived.Test.YtblnbjlcpleaaaaW13
set_option linter.unusedSimpArgs false
set_option linter.unusedVariables false
namespace Go.Proofs.Ytblnbjlcpleaaaa
open Go Go.J

theorem sort37_spec {m : Nat} (enc : Nat → Value) (h1 : ∀ i, i < m → (enc i).oneCell' = true) (f : Nat → List Str) (D : Dat) (hcl : ∀ a b, a < m → b < m → FnV Try.prog 38 ([enc a, enc b] ++ []).toArray [D] (iv (wcmp (f a) (f b)))) (v : Value) (hm : m < 4611686018427387904) :
    FnH Try.prog 37 #[v, .func (.func 38) #[] ([] : List Value).toArray] ([D].map dat ++ [row v 23 1 m ((List.range m).map enc)]) (fun u H' => u = .tuple #[] ∧ ∃ l : List Nat, l.Perm (List.range m) ∧ l.Pairwise (fun a b => ¬ wcmp (f b) (f a) < 0) ∧ H' = [row v 23 1 m (l.map enc)]) :=
  sortIdx_spec Try.laysSlF6_f37 enc h1 (fun a b => wcmp (f a) (f b)) (fun a _ => by show ¬ wcmp (f a) (f a) < 0; rw [wcmp_lt, wlt_irrefl]; decide) (fun a b c _ _ _ p q => wcmp_lt.2 (wlt_trans (wcmp_lt.1 p) (wcmp_lt.1 q)))
    (fun a b c _ _ _ p q => by
      show ¬ wcmp (f a) (f c) < 0
      rw [wcmp_lt] at p q ⊢
      intro h3
      rcases wlt_tri (f a) (f b) with t | t | t
      · exact p t
      · rw [t] at h3; exact q h3
      · exact q (wlt_trans t h3)) 38 cb38 [] D hcl v 23 hm

theorem Rows_spec (v0 v1 : Value) (rules : List Prec) (ks : List Str) : FnH Try.prog 21 #[v0, v1] ([sl precR v0 rules, sl strR v1 ks].map dat) (fun v H' => ∃ vo vs R, v = .tuple #[vo, fv (chk rules ks)] ∧ vs.length = R.length ∧ RowsP rules ks R ∧ H' = [dat (sl valR vo vs), dat (ptw strR vs R)]) := by
  refine FnH.bodyd2 (args := [v0, v1]) 24 Try.func21 rfl Try.ntmps21 rfl (fun c => ?_)
  refine St.seq ?_
  refine St.shape v1 (fun ad1 cp1 hsh1 _ => ?_)
  have hv1 : v1.oneCell' = true := by rw [hsh1]; rfl
  clear hsh1
  refine St.rg ?_
  refine St.box1 (Opd.mk rfl) hv1 rfl (fun b3 => ?_)
  refine St.ev _ (Ev.assign (Opd.mk rfl)) rfl ?_
  refine St.alloc zc27 rfl (fun b5 => ?_)
  refine St.nil ?_
  refine St.then_normal ?_
  refine St.seq ?_
  refine St.seq ?_
  refine St.rg ?_
  refine St.ev _ (Ev.move (Opd.mk rfl)) rfl ?_
  refine St.ev _ (Ev.ldb (Opd.mk rfl) Try.underlying23 trivial (by rfl)) rfl ?_
  refine St.ev _ (Ev.call (check_spec v0 v1 rules ks) cb24 (Opds.cons (Opd.mk rfl) (Opds.cons (Opd.mk rfl) Opds.nil))) rfl ?_
  refine St.alloc zc27 rfl (fun b6 => ?_)
  refine St.storeA (Opd.mk rfl) (Opd.mk rfl) sz27 (by first | simp only [List.length_cons, List.length_nil] | rfl) rfl ?_
  refine St.nil ?_
  refine St.then_normal ?_
  refine St.seq ?_
  refine St.rg ?_
  refine St.ev _ (Ev.fldb0 (Opd.mk rfl) fo27_0) rfl ?_
  refine St.ev _ (Ev.ldb (Opd.mk rfl) Try.underlying3 trivial (by rfl)) rfl ?_
  refine St.ev _ (Ev.neq (Opd.mk rfl) (Opd.mk rfl)) rfl ?_
  refine St.nil ?_
  refine St.then_normal ?_
  refine St.cond _ rfl (fun h13 => ?_) (fun h13 => ?_)
  · skip
    try simp only [Bool.and_true, Bool.true_and, decide_eq_true_eq, decide_eq_false_iff_not, Bool.and_eq_true, Bool.or_eq_true, Bool.and_eq_false_iff, Bool.or_eq_false_iff, Bool.not_eq_true', Bool.not_eq_false', beq_iff_eq, beq_eq_false_iff_ne, Int.not_lt, Int.not_le] at h13
    refine St.seq ?_
    refine St.par [b5] mixed ?_
    refine SW.defer 0 (by repeat (first | refine NP.then ?_ | refine NP.inBlock ?_ | exact NP.body)) (by kernel_rfl) rfl (fun R => Ev.ldbA (Opd.mk rfl) Try.underlying27 trivial (by exact sz27)) (by kernel_rfl) rfl ?_
    refine SW.defer 1 (by repeat (first | refine NP.then ?_ | refine NP.inBlock ?_ | exact NP.body)) (by kernel_rfl) rfl (fun R => Ev.assign (Opd.mk rfl)) (by kernel_rfl) rfl ?_
    refine SW.turn1 (i := 2) (by kernel_rfl) rfl ?_
    refine St.storeA (Opd.mk rfl) (Opd.mk rfl) sz27 (by first | simp only [List.length_cons, List.length_nil] | rfl) rfl ?_
    refine St.nil ?_
    refine St.then_normal ?_
    refine SW.go ?_
    refine SW.done (by kernel_rfl) ?_
    refine St.then_normal ?_
    refine St.rett ?_
    refine St.then_ret ?_
    refine St.nilsls (Rr := strR) ?_
    refine St.rets [_, _] [dat (sl valR (.slice none 0 0) []), dat (ptw strR [] [])] Try.results21 ⟨rfl, ⟨⟨_, _, _, _, rfl, InB.mem, .inl ⟨⟨_, Try.underlying27⟩, sz27, rfl⟩⟩, trivial⟩⟩ ?_ (fun _ hw => hw.sub)
    exact ⟨_, [], [], rfl, rfl, .inl ⟨h13, rfl⟩, rfl⟩
  · skip
    try simp only [Bool.and_true, Bool.true_and, decide_eq_true_eq, decide_eq_false_iff_not, Bool.and_eq_true, Bool.or_eq_true, Bool.and_eq_false_iff, Bool.or_eq_false_iff, Bool.not_eq_true', Bool.not_eq_false', beq_iff_eq, beq_eq_false_iff_ne, Int.not_lt, Int.not_le] at h13
    have hcz : (chk rules ks).1 = 0 := by omega
    obtain ⟨hr, hks⟩ := chk_ok hcz
    have hlt := leafN_top hks
    refine St.skip ?_
    refine St.then_normal ?_
    refine St.seq ?_
    refine St.rg ?_
    refine St.alloc zc48 rfl (fun b7 => ?_)
    refine St.nil ?_
    refine St.then_normal ?_
    refine St.seq ?_
    refine St.nilrow 23 1 ?_
    refine St.rg ?_
    refine St.ev _ (Ev.move (Opd.mk rfl)) rfl ?_
    refine St.ev _ (Ev.ldb (Opd.mk rfl) Try.underlying23 trivial (by rfl)) rfl ?_
    refine St.ev _ (Ev.func (Opds.cons (Opd.mk rfl) (Opds.cons (Opd.mk rfl) Opds.nil))) rfl ?_
    refine St.callO  (ds := [sl precR v0 rules, sl strR v1 ks, sl strR v1 ks]) (L := [blk b3 (.cells #[v1] 23 (0, 0)), blk b7 (.cells #[.slice none 0 0] 48 (0, 0)), row (.slice none 0 0) 23 1 0 []]) (R := _) (all_spec rules hr ks hks (SpR b3 b7 v1) (SpR_solid b3 b7 v1) (fun _ _ => true) (ynR ks) 36 [.pointer (some ⟨b3, 0, none⟩), .pointer (some ⟨b7, 0, none⟩)] cb36 IvR (fun _ _ s h1 h2 => by unfold IvR at *; omega) (fun c s l h _ => by unfold IvR ynR at *; rw [List.length_append, List.length_singleton]; omega) (sl strR v1 ks) (Rows1_spec b3 b7 v1 ks hks) v0 v1 [] [blk b3 (.cells #[v1] 23 (0, 0)), blk b7 (.cells #[.slice none 0 0] 48 (0, 0)), row (.slice none 0 0) 23 1 0 []] (by show 0 + _ ≤ _; omega) ⟨(fun _ h => by cases h), _, [], rfl, rfl⟩) cb29 (Opds.cons (Opd.mk rfl) (Opds.cons (Opd.mk rfl) (Opds.cons (Opd.mk rfl) Opds.nil))) (LentO.alld) (Solid.blk (Solid.blk (Solid.row Solid.nil))) (fun u H' h => SpR_solid _ _ _ _ _ h) rfl ?_
    rintro v18 _ ⟨hbd, vo, ps, hs, rfl⟩
    refine St.appr ?_
    rw [walk_rows] at hs hbd
    have hal : (allR rules ks).length = (good rules ks).length := List.length_map _
    have hgs := good_small (rules := rules) (ks := ks) (by omega)
    refine St.nil ?_
    refine St.then_normal ?_
    refine St.seq ?_
    refine St.publishRev (e := 9) (Rr := strR) ps (fun p hp x hx => hbd p.2 (by rw [hs]; exact List.mem_reverse.2 (List.mem_map_of_mem hp)) x hx) ?_
    rw [← hs]
    have hpl : ps.length = (allR rules ks).length := by rw [hs]; simp
    generalize hvs : (ps.map Prod.fst).reverse = vs
    have hvl : vs.length = (allR rules ks).length := by rw [← hvs, hs]; simp
    clear hvs
    refine St.rowEqN vo (show _ = vs.length by rw [hvl, hpl]) (vals_idx vs) ?_
    refine St.rg ?_
    refine St.ev _ (Ev.ldb (Opd.mk rfl) Try.underlying48 trivial (by rfl)) rfl ?_
    refine St.callO  (ds := [ptw strR vs (allR rules ks)]) (L := [row vo 23 1 vs.length ((List.range vs.length).map (fun i => (vs.map Subtype.val).getD i undef))]) (R := _) (sort37_spec (fun i => (vs.map Subtype.val).getD i undef) (fun i hi => by obtain ⟨u, _, he⟩ := vs_at hi; show ((vs.map Subtype.val).getD i undef).oneCell' = true; rw [he]; exact u.2) (fun i => (allR rules ks).getD i []) (ptw strR vs (allR rules ks)) (fun a b ha hb => ptw_two ha hb hvl (CompareW_spec _ _ _ _)) vo (by omega)) cb37 (Opds.cons (Opd.mk rfl) (Opds.cons (Opd.mk rfl) Opds.nil)) (LentO.alld) (Solid.row Solid.nil) (fun u H' h => by obtain ⟨_, _, _, _, rfl⟩ := h; exact Solid.row Solid.nil) rfl ?_
    rintro v20 _ ⟨_, idx, hperm, hsort, rfl⟩
    refine St.appr ?_
    have hil : idx.length = vs.length := by rw [hperm.length_eq, List.length_range]
    have him : ∀ j ∈ idx, j < vs.length := fun j hj => List.mem_range.1 (hperm.mem_iff.1 hj)
    refine St.rowEqN vo hil.symm rfl ?_
    have hperm2 := hperm
    rw [hvl] at hperm2
    have hRP := rows_of hcz hperm2 hsort
    refine St.nil ?_
    refine St.then_normal ?_
    refine St.seq ?_
    refine St.rg ?_
    refine St.ev _ (Ev.ldb (Opd.mk rfl) Try.underlying48 trivial (by rfl)) rfl ?_
    refine St.callO  (ds := [ptw strR vs (allR rules ks)]) (L := [row vo 23 1 idx.length (idx.map (fun i => (vs.map Subtype.val).getD i undef))]) (R := _) (CompactFunc_spec (fun i => (vs.map Subtype.val).getD i undef) (eqf fun i => (allR rules ks).getD i []) 40 cb40 [] (ptw strR vs (allR rules ks)) vo idx (fun i hi => by obtain ⟨u, _, he⟩ := vs_at (him i hi); show ((vs.map Subtype.val).getD i undef).oneCell' = true; rw [he]; exact u.2) (fun a b ha hb => ptw_two (him a ha) (him b hb) hvl (EqualW_spec _ _ _ _)) (by omega)) cb39 (Opds.cons (Opd.mk rfl) (Opds.cons (Opd.mk rfl) Opds.nil)) (LentO.alld) (Solid.row Solid.nil) (fun u H' h => by obtain ⟨_, rfl⟩ := h; exact Solid.row Solid.nil) rfl ?_
    rintro v22 _ ⟨ho22, rfl⟩
    refine St.appr ?_
    refine St.ev _ (Ev.build (ps := []) (Opds.nil) (fun w => bld27_  w)) rfl ?_
    refine St.ev _ (Ev.assign (Opd.mk rfl)) rfl ?_
    refine St.storeA (Opd.mk rfl) (Opd.mk rfl) sz27 (by first | simp only [List.length_cons, List.length_nil] | rfl) rfl ?_
    refine St.nil ?_
    refine St.then_normal ?_
    refine St.rett ?_
    have hdm : ∀ j ∈ dd (eqf fun i => (allR rules ks).getD i []) idx, j < vs.length := fun j hj => him j (dd_sub _ hj)
    generalize dd (eqf fun i => (allR rules ks).getD i []) idx = js at hRP hdm ⊢
    refine St.publish v22 valR (js.map fun j => vs.getD j ⟨.bool true, rfl⟩) (rows_sub hdm _) (by simp) (fun _ _ => trivial) ?_
    refine St.fact (ptw strR (js.map fun j => vs.getD j ⟨.bool true, rfl⟩) (js.map fun j => (allR rules ks).getD j [])) (fun ρ w hm => ptw_sub (hm.dat inferInstance) hvl hdm _) ?_
    refine St.rets [_, _] [dat (sl valR v22 (js.map fun j => vs.getD j ⟨.bool true, rfl⟩)), dat (ptw strR (js.map fun j => vs.getD j ⟨.bool true, rfl⟩) (js.map fun j => (allR rules ks).getD j []))] Try.results21 ⟨rfl, ⟨⟨_, _, _, _, rfl, InB.mem, .inl ⟨⟨_, Try.underlying27⟩, sz27, rfl⟩⟩, trivial⟩⟩ ?_ (fun _ hw => hw.sub)
    rw [chk_code hcz]; exact ⟨_, _, _, rfl, by simp, hRP, rfl⟩

end Go.Proofs.Ytblnbjlcpleaaaa
