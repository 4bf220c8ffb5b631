/-
  All orders, their number and the first one: what the code returns.
  Conditions: none.
-/
import Derived.Test.YtblnbjlcpleaaaaW4
import Derived.Test.YtblnbjlcpleaaaaJ10
set_option linter.unusedSimpArgs false
set_option linter.unusedVariables false
namespace Go.Proofs.Ytblnbjlcpleaaaa
open Go Go.J


section
def SpO (b : Nat) (s : List (List Int)) (L : List Ent) : Prop :=
  (∀ l ∈ s, ∀ x ∈ l, 0 ≤ x ∧ x < 7) ∧ ∃ (vo : Value) (ps : List (OneV × List Int)), s = (ps.map Prod.snd).reverse ∧ L = blk b (.cells #[vo] 35 (0, 0)) :: row vo 24 1 ps.length (rows valR (ps.map Prod.fst).reverse) :: owned 3 intR ps
def ybO (s : List (List Int)) (_ : List Int) : Bool := decide (((s.length + 1 : Nat) : Int) ≤ 1000)
theorem ybO_eq {s : List (List Int)} {l : List Int} {k : Nat} (h : s.length = k) : ret1 [Value.bool (decide (((k + 1 : Nat) : Int) ≤ 1000))] = .bool (ybO s l) := by subst h; rfl
def IvO (s : List (List Int)) : Prop := s.length ≤ 1000
theorem IvO_of {s : List (List Int)} {l : List Int} (h : ybO s l = true) : IvO (s ++ [l]) := by
  have h : ((s.length + 1 : Nat) : Int) ≤ 1000 := of_decide_eq_true h
  simp only [IvO, List.length_append, List.length_singleton]; omega
def ynO (s : List (List Int)) (l : List Int) : List (List Int) := s ++ [l]
theorem SpO_solid (b : Nat) (s : List (List Int)) (L : List Ent) (h : SpO b s L) : Solid L := by
  obtain ⟨_, vo, ps, _, rfl⟩ := h
  exact Solid.blk (Solid.row (Solid.owned ps))
def SpC (b : Nat) (s : Int) (L : List Ent) : Prop := L = [blk b (.cells #[iv s] 3 (0, 0))]
def ynC (s : Int) (_ : List Int) : Int := IntKind.i64.wrap (s + 1)
theorem SpC_solid (b : Nat) (s : Int) (L : List Ent) (h : SpC b s L) : Solid L := by
  subst h; exact Solid.blk Solid.nil
def SpF (b d : Nat) (s : Option (List Int)) (L : List Ent) : Prop :=
  (∀ x ∈ s.getD [], 0 ≤ x ∧ x < 7) ∧ ∃ v, L = [blk b (.cells #[v] 24 (0, 0)), blk d (.cells #[.bool s.isSome] 4 (0, 0)), row v 3 1 (s.getD []).length (rows intR (s.getD []))]
theorem SpF_solid (b d : Nat) (s : Option (List Int)) (L : List Ent) (h : SpF b d s L) : Solid L := by
  obtain ⟨_, v, rfl⟩ := h; exact Solid.blk (Solid.blk (Solid.row Solid.nil))
end

theorem Orders1_spec (b n : Nat) (hn : n ≤ 7) (D : Dat) : Takes 30 [.pointer (some ⟨b, 0, none⟩)] (SpO b) ybO ynO (fun _ => IvO) n D := by
  rintro s L v l hI ⟨hbd, vo, ps, rfl, rfl⟩ hll hl
  have hl7 : ∀ x ∈ l, 0 ≤ x ∧ x < 7 := fun x hx => by have := hl x hx; omega
  have hbd2 : ∀ l2 ∈ (ps.map Prod.snd).reverse ++ [l], ∀ x ∈ l2, 0 ≤ x ∧ x < 7 := by
    intro l2 h2
    rcases List.mem_append.1 h2 with h2 | h2
    · exact hbd l2 h2
    · obtain rfl := List.mem_singleton.1 h2; exact hl7
  have hI : ps.length ≤ 1000 := by simpa [IvO] using hI
  refine FnH.body (args := [v, .pointer (some ⟨b, 0, none⟩)]) 12 Try.func30 rfl Try.ntmps30 rfl (fun c => ?_)
  refine St.seq ?_
  refine St.appl ?_
  refine St.rg ?_
  refine St.ev _ (Ev.assign (Opd.mk rfl)) rfl ?_
  refine St.nil ?_
  refine St.then_normal ?_
  refine St.seq ?_
  refine St.any mixed (Mm.drawn _ _) ?_
  refine St.any2 (i := 0) (j := 1) (by kernel_rfl) rfl rfl ?_ ?_
  · skip
    refine St.ev _ (Ev.ldb (Opd.mk rfl) Try.underlying35 trivial (by rfl)) rfl ?_
    refine St.nil ?_
    refine St.then_normal ?_
    refine St.any1 (i := 1) (by kernel_rfl) rfl ?_
    refine St.ev _ (Ev.move (Opd.mk rfl)) rfl ?_
    refine St.nil ?_
    refine St.then_normal ?_
    refine St.any1 (i := 2) (by kernel_rfl) rfl ?_
    refine St.calld (CloneI_spec v l (by omega)) cb31 (Opds.cons (Opd.mk rfl) Opds.nil) rfl ?_
    rintro v6 _ rfl
    refine St.app1 ?_
    refine St.rowOne v6 (fun ho6 _ => ?_)
    refine St.nil ?_
    refine St.then_normal ?_
    refine St.any1 (i := 3) (by kernel_rfl) rfl ?_
    refine St.buildSl (xs := [(Operand.tmp 6)]) (ps := [(0, (Operand.tmp 6))]) rfl (Opds.cons (Opd.mk rfl) Opds.nil) Try.underlying35 sz24 zv24 rfl rfl (by simp [J.cells_one ho6]) rfl rfl (fun b7 => ?_)
    refine St.nil ?_
    refine St.then_normal ?_
    refine St.any1 (i := 4) (by kernel_rfl) rfl ?_
    refine St.appendRow (Opd.mk rfl) (Opd.mk rfl) Try.underlying35 sz24 zv24 by24 (by simp [J.cells_one ho6, ho6]) (by omega) (by omega) rfl rfl rfl rfl (fun v8 hv8 => ?_)
    refine St.rowOne v8 (fun ho8 _ => ?_)
    refine St.rowEq v8 (show _ = rows valR ((((⟨v6, ho6⟩ : OneV), l) :: ps).map Prod.fst).reverse by rw [rows_valR, rows_valR]; simp [J.cells_one ho6]) ?_
    refine St.nil ?_
    refine St.then_normal ?_
    refine St.any1 (i := 5) (by kernel_rfl) rfl ?_
    refine St.store1 (Opd.mk rfl) (Opd.mk rfl) sz35 ho8 (by rfl) ?_
    refine St.nil ?_
    refine St.then_normal ?_
    refine St.any_done (by kernel_rfl) ?_
    refine St.then_normal ?_
    refine St.seq ?_
    refine St.rg ?_
    refine St.ev _ (Ev.ldb (Opd.mk rfl) Try.underlying35 trivial (by rfl)) rfl ?_
    refine St.ev _ (Ev.lenrow (Opd.mk rfl) Try.underlying35) rfl ?_
    refine St.ev _ (Ev.leq (Opd.mk rfl) (Opd.mk rfl)) rfl ?_
    refine St.ev _ (Ev.assign (Opd.mk rfl)) rfl ?_
    refine St.nil ?_
    refine St.then_normal ?_
    refine St.rett ?_
    refine St.rets [_] (blk b (.cells #[v8] 35 (0, 0)) :: row v8 24 1 (ps.length + 1) (rows valR ((((⟨v6, ho6⟩ : OneV), l) :: ps).map Prod.fst).reverse) :: row v6 3 1 l.length (rows intR l) :: owned 3 intR ps) Try.results30 ⟨rfl, trivial⟩ ?_ (fun _ hw => hw.sub)
    exact ⟨ybO_eq (by simp only [List.length_reverse, List.length_map]), hbd2, v8, (((⟨v6, ho6⟩ : OneV), l) :: ps), by simp only [ynO, List.map_cons, List.reverse_cons], rfl⟩
  · skip
    refine St.ev _ (Ev.move (Opd.mk rfl)) rfl ?_
    refine St.nil ?_
    refine St.then_normal ?_
    refine St.any2 (i := 0) (j := 2) (by kernel_rfl) rfl rfl ?_ ?_
    · skip
      refine St.ev _ (Ev.ldb (Opd.mk rfl) Try.underlying35 trivial (by rfl)) rfl ?_
      refine St.nil ?_
      refine St.then_normal ?_
      refine St.any1 (i := 2) (by kernel_rfl) rfl ?_
      refine St.calld (CloneI_spec v l (by omega)) cb31 (Opds.cons (Opd.mk rfl) Opds.nil) rfl ?_
      rintro v6 _ rfl
      refine St.app1 ?_
      refine St.rowOne v6 (fun ho6 _ => ?_)
      refine St.nil ?_
      refine St.then_normal ?_
      refine St.any1 (i := 3) (by kernel_rfl) rfl ?_
      refine St.buildSl (xs := [(Operand.tmp 6)]) (ps := [(0, (Operand.tmp 6))]) rfl (Opds.cons (Opd.mk rfl) Opds.nil) Try.underlying35 sz24 zv24 rfl rfl (by simp [J.cells_one ho6]) rfl rfl (fun b7 => ?_)
      refine St.nil ?_
      refine St.then_normal ?_
      refine St.any1 (i := 4) (by kernel_rfl) rfl ?_
      refine St.appendRow (Opd.mk rfl) (Opd.mk rfl) Try.underlying35 sz24 zv24 by24 (by simp [J.cells_one ho6, ho6]) (by omega) (by omega) rfl rfl rfl rfl (fun v8 hv8 => ?_)
      refine St.rowOne v8 (fun ho8 _ => ?_)
      refine St.rowEq v8 (show _ = rows valR ((((⟨v6, ho6⟩ : OneV), l) :: ps).map Prod.fst).reverse by rw [rows_valR, rows_valR]; simp [J.cells_one ho6]) ?_
      refine St.nil ?_
      refine St.then_normal ?_
      refine St.any1 (i := 5) (by kernel_rfl) rfl ?_
      refine St.store1 (Opd.mk rfl) (Opd.mk rfl) sz35 ho8 (by rfl) ?_
      refine St.nil ?_
      refine St.then_normal ?_
      refine St.any_done (by kernel_rfl) ?_
      refine St.then_normal ?_
      refine St.seq ?_
      refine St.rg ?_
      refine St.ev _ (Ev.ldb (Opd.mk rfl) Try.underlying35 trivial (by rfl)) rfl ?_
      refine St.ev _ (Ev.lenrow (Opd.mk rfl) Try.underlying35) rfl ?_
      refine St.ev _ (Ev.leq (Opd.mk rfl) (Opd.mk rfl)) rfl ?_
      refine St.ev _ (Ev.assign (Opd.mk rfl)) rfl ?_
      refine St.nil ?_
      refine St.then_normal ?_
      refine St.rett ?_
      refine St.rets [_] (blk b (.cells #[v8] 35 (0, 0)) :: row v8 24 1 (ps.length + 1) (rows valR ((((⟨v6, ho6⟩ : OneV), l) :: ps).map Prod.fst).reverse) :: row v6 3 1 l.length (rows intR l) :: owned 3 intR ps) Try.results30 ⟨rfl, trivial⟩ ?_ (fun _ hw => hw.sub)
      exact ⟨ybO_eq (by simp only [List.length_reverse, List.length_map]), hbd2, v8, (((⟨v6, ho6⟩ : OneV), l) :: ps), by simp only [ynO, List.map_cons, List.reverse_cons], rfl⟩
    · skip
      refine St.calld (CloneI_spec v l (by omega)) cb31 (Opds.cons (Opd.mk rfl) Opds.nil) rfl ?_
      rintro v6 _ rfl
      refine St.app1 ?_
      refine St.rowOne v6 (fun ho6 _ => ?_)
      refine St.nil ?_
      refine St.then_normal ?_
      refine St.any2 (i := 0) (j := 3) (by kernel_rfl) rfl rfl ?_ ?_
      · skip
        refine St.ev _ (Ev.ldb (Opd.mk rfl) Try.underlying35 trivial (by rfl)) rfl ?_
        refine St.nil ?_
        refine St.then_normal ?_
        refine St.any1 (i := 3) (by kernel_rfl) rfl ?_
        refine St.buildSl (xs := [(Operand.tmp 6)]) (ps := [(0, (Operand.tmp 6))]) rfl (Opds.cons (Opd.mk rfl) Opds.nil) Try.underlying35 sz24 zv24 rfl rfl (by simp [J.cells_one ho6]) rfl rfl (fun b7 => ?_)
        refine St.nil ?_
        refine St.then_normal ?_
        refine St.any1 (i := 4) (by kernel_rfl) rfl ?_
        refine St.appendRow (Opd.mk rfl) (Opd.mk rfl) Try.underlying35 sz24 zv24 by24 (by simp [J.cells_one ho6, ho6]) (by omega) (by omega) rfl rfl rfl rfl (fun v8 hv8 => ?_)
        refine St.rowOne v8 (fun ho8 _ => ?_)
        refine St.rowEq v8 (show _ = rows valR ((((⟨v6, ho6⟩ : OneV), l) :: ps).map Prod.fst).reverse by rw [rows_valR, rows_valR]; simp [J.cells_one ho6]) ?_
        refine St.nil ?_
        refine St.then_normal ?_
        refine St.any1 (i := 5) (by kernel_rfl) rfl ?_
        refine St.store1 (Opd.mk rfl) (Opd.mk rfl) sz35 ho8 (by rfl) ?_
        refine St.nil ?_
        refine St.then_normal ?_
        refine St.any_done (by kernel_rfl) ?_
        refine St.then_normal ?_
        refine St.seq ?_
        refine St.rg ?_
        refine St.ev _ (Ev.ldb (Opd.mk rfl) Try.underlying35 trivial (by rfl)) rfl ?_
        refine St.ev _ (Ev.lenrow (Opd.mk rfl) Try.underlying35) rfl ?_
        refine St.ev _ (Ev.leq (Opd.mk rfl) (Opd.mk rfl)) rfl ?_
        refine St.ev _ (Ev.assign (Opd.mk rfl)) rfl ?_
        refine St.nil ?_
        refine St.then_normal ?_
        refine St.rett ?_
        refine St.rets [_] (blk b (.cells #[v8] 35 (0, 0)) :: row v8 24 1 (ps.length + 1) (rows valR ((((⟨v6, ho6⟩ : OneV), l) :: ps).map Prod.fst).reverse) :: row v6 3 1 l.length (rows intR l) :: owned 3 intR ps) Try.results30 ⟨rfl, trivial⟩ ?_ (fun _ hw => hw.sub)
        exact ⟨ybO_eq (by simp only [List.length_reverse, List.length_map]), hbd2, v8, (((⟨v6, ho6⟩ : OneV), l) :: ps), by simp only [ynO, List.map_cons, List.reverse_cons], rfl⟩
      · skip
        refine St.buildSl (xs := [(Operand.tmp 6)]) (ps := [(0, (Operand.tmp 6))]) rfl (Opds.cons (Opd.mk rfl) Opds.nil) Try.underlying35 sz24 zv24 rfl rfl (by simp [J.cells_one ho6]) rfl rfl (fun b7 => ?_)
        refine St.nil ?_
        refine St.then_normal ?_
        refine St.any1 (i := 0) (by kernel_rfl) rfl ?_
        refine St.ev _ (Ev.ldb (Opd.mk rfl) Try.underlying35 trivial (by rfl)) rfl ?_
        refine St.nil ?_
        refine St.then_normal ?_
        refine St.any1 (i := 4) (by kernel_rfl) rfl ?_
        refine St.appendRow (Opd.mk rfl) (Opd.mk rfl) Try.underlying35 sz24 zv24 by24 (by simp [J.cells_one ho6, ho6]) (by omega) (by omega) rfl rfl rfl rfl (fun v8 hv8 => ?_)
        refine St.rowOne v8 (fun ho8 _ => ?_)
        refine St.rowEq v8 (show _ = rows valR ((((⟨v6, ho6⟩ : OneV), l) :: ps).map Prod.fst).reverse by rw [rows_valR, rows_valR]; simp [J.cells_one ho6]) ?_
        refine St.nil ?_
        refine St.then_normal ?_
        refine St.any1 (i := 5) (by kernel_rfl) rfl ?_
        refine St.store1 (Opd.mk rfl) (Opd.mk rfl) sz35 ho8 (by rfl) ?_
        refine St.nil ?_
        refine St.then_normal ?_
        refine St.any_done (by kernel_rfl) ?_
        refine St.then_normal ?_
        refine St.seq ?_
        refine St.rg ?_
        refine St.ev _ (Ev.ldb (Opd.mk rfl) Try.underlying35 trivial (by rfl)) rfl ?_
        refine St.ev _ (Ev.lenrow (Opd.mk rfl) Try.underlying35) rfl ?_
        refine St.ev _ (Ev.leq (Opd.mk rfl) (Opd.mk rfl)) rfl ?_
        refine St.ev _ (Ev.assign (Opd.mk rfl)) rfl ?_
        refine St.nil ?_
        refine St.then_normal ?_
        refine St.rett ?_
        refine St.rets [_] (blk b (.cells #[v8] 35 (0, 0)) :: row v8 24 1 (ps.length + 1) (rows valR ((((⟨v6, ho6⟩ : OneV), l) :: ps).map Prod.fst).reverse) :: row v6 3 1 l.length (rows intR l) :: owned 3 intR ps) Try.results30 ⟨rfl, trivial⟩ ?_ (fun _ hw => hw.sub)
        exact ⟨ybO_eq (by simp only [List.length_reverse, List.length_map]), hbd2, v8, (((⟨v6, ho6⟩ : OneV), l) :: ps), by simp only [ynO, List.map_cons, List.reverse_cons], rfl⟩

theorem Count1_spec (b n : Nat) (D : Dat) : Takes 33 [.pointer (some ⟨b, 0, none⟩)] (SpC b) (fun _ _ => true) ynC (fun _ _ => True) n D := by
  rintro s L v l _ rfl hll hl
  refine FnH.body (args := [v, .pointer (some ⟨b, 0, none⟩)]) 6 Try.func33 rfl Try.ntmps33 rfl (fun c => ?_)
  refine St.seq ?_
  refine St.appl ?_
  refine St.rg ?_
  refine St.ev _ (Ev.assign (Opd.mk rfl)) rfl ?_
  refine St.nil ?_
  refine St.then_normal ?_
  refine St.seq ?_
  refine St.rg ?_
  refine St.ev _ (Ev.ldb (Opd.mk rfl) Try.underlying3 trivial (by rfl)) rfl ?_
  refine St.ev _ (Ev.addW (Opd.mk rfl) (Opd.mk rfl)) rfl ?_
  refine St.store1 (Opd.mk rfl) (Opd.mk rfl) sz3 rfl (by rfl) ?_
  refine St.nil ?_
  refine St.then_normal ?_
  refine St.seq ?_
  refine St.rg ?_
  refine St.ev _ (Ev.assign (Opd.mk rfl)) rfl ?_
  refine St.nil ?_
  refine St.then_normal ?_
  refine St.rett ?_
  refine St.rets [_] [blk b (.cells #[iv (IntKind.i64.wrap (s + 1))] 3 (0, 0))] Try.results33 ⟨rfl, trivial⟩ ?_ (fun _ hw => hw.sub)
  exact ⟨rfl, rfl⟩

theorem First1_spec (b d n : Nat) (hn : n ≤ 7) (D : Dat) : Takes 34 [.pointer (some ⟨b, 0, none⟩), .pointer (some ⟨d, 0, none⟩)] (SpF b d) (fun _ _ => false) (fun _ l => some l) (fun _ s => s = none) n D := by
  rintro s L v l rfl ⟨_, vx, rfl⟩ hll hl
  refine FnH.body (args := [v, .pointer (some ⟨b, 0, none⟩), .pointer (some ⟨d, 0, none⟩)]) 7 Try.func34 rfl Try.ntmps34 rfl (fun c => ?_)
  refine St.seq ?_
  refine St.appl ?_
  refine St.rg ?_
  refine St.ev _ (Ev.assign (Opd.mk rfl)) rfl ?_
  refine St.nil ?_
  refine St.then_normal ?_
  refine St.seq ?_
  refine St.rg ?_
  refine St.ev _ (Ev.move (Opd.mk rfl)) rfl ?_
  refine St.calld (CloneI_spec v l (by omega)) cb31 (Opds.cons (Opd.mk rfl) Opds.nil) rfl ?_
  rintro v6 _ rfl
  refine St.app1 ?_
  refine St.rowOne v6 (fun ho6 _ => ?_)
  refine St.store1 (Opd.mk rfl) (Opd.mk rfl) sz24 ho6 (by rfl) ?_
  refine St.store1 (Opd.mk rfl) (Opd.mk rfl) sz4 rfl (by rfl) ?_
  refine St.nil ?_
  refine St.then_normal ?_
  refine St.seq ?_
  refine St.rg ?_
  refine St.ev _ (Ev.assign (Opd.mk rfl)) rfl ?_
  refine St.nil ?_
  refine St.then_normal ?_
  refine St.rett ?_
  refine St.rets [_] [blk b (.cells #[v6] 24 (0, 0)), blk d (.cells #[.bool true] 4 (0, 0)), row v6 3 1 l.length (rows intR l)] Try.results34 ⟨rfl, trivial⟩ ?_ (fun _ hw => hw.sub)
  exact ⟨rfl, fun x hx => by have := hl x hx; omega, v6, rfl⟩


theorem kindOk_of {p : Prec} (h : badRule p = 0) : kindOk p := by
  unfold kindOk
  unfold badRule at h
  split at h
  · cases h
  · rename_i h1
    simp only [pairK, Bool.not_eq_true', Bool.and_eq_true, Bool.or_eq_false_iff, decide_eq_false_iff_not, not_and, Classical.not_not] at h1
    by_cases h2 : p.kind = 1
    · exact .inl h2
    · by_cases h3 : p.kind = 2
      · exact .inr (.inl h3)
      · by_cases h4 : p.kind = 3
        · exact .inr (.inr (.inl h4))
        · right; right; right
          simpa [h2, h3, h4] using h1
theorem vfFrom_ok : ∀ (rules : List Prec) (k : Nat), (vfFrom k rules).1 = 0 → ∀ p ∈ rules, kindOk p
  | [], _, _ => fun p hp => by cases hp
  | q :: rules, k, h => fun p hp => by
    simp only [vfFrom] at h
    split at h
    · rename_i h0
      rcases List.mem_cons.1 hp with rfl | hp
      · exact kindOk_of h0
      · exact vfFrom_ok rules (k + 1) h p hp
    · rename_i h0; exact absurd h h0
theorem chk_ok {rules : List Prec} {ks : List Str} (h : (chk rules ks).1 = 0) : (∀ p ∈ rules, kindOk p) ∧ ks.length ≤ 7 := by
  unfold chk at h
  split at h
  · rename_i h0; exact absurd h h0
  · rename_i h0
    have h0 : (vfault rules).1 = 0 := Classical.not_not.1 h0
    split at h
    · cases h
    · rename_i h1
      refine ⟨?_, by omega⟩
      unfold vfault at h0
      split at h0
      · cases h0
      · exact vfFrom_ok rules 0 h0
def ordS (rules : List Prec) (ks : List Str) : List (List Int) := (walkF rules ks ybO ynO ks.length [] []).2
/-- what Orders returns -/
def ordersOf (rules : List Prec) (ks : List Str) : List (List Int) × (Int × Int) :=
  if (chk rules ks).1 ≠ 0 then ([], chk rules ks) else if 1000 < ((ordS rules ks).length : Int) then ([], (17, 0)) else (ordS rules ks, (0, 0))
def countOf (rules : List Prec) (ks : List Str) : Int × (Int × Int) :=
  if (chk rules ks).1 ≠ 0 then (0, chk rules ks) else ((walkF rules ks (fun _ _ => true) ynC ks.length [] 0).2, (0, 0))
def firstOf (rules : List Prec) (ks : List Str) : Option (List Int) × (Int × Int) :=
  if (chk rules ks).1 ≠ 0 then (none, chk rules ks) else ((walkF rules ks (fun _ _ => false) (fun _ l => some l) ks.length [] none).2, (0, 0))

theorem Count_spec (v0 v1 : Value) (rules : List Prec) (ks : List Str) : FnH Try.prog 17 #[v0, v1] ([sl precR v0 rules, sl strR v1 ks].map dat) (fun v H' => v = .tuple #[iv (countOf rules ks).1, fv (countOf rules ks).2] ∧ H' = []) := by
  refine FnH.bodyd2 (args := [v0, v1]) 21 Try.func17 rfl Try.ntmps17 rfl (fun c => ?_)
  refine St.seq ?_
  refine St.rg ?_
  refine St.ev _ (Ev.assign (Opd.mk rfl)) rfl ?_
  refine St.alloc zc27 rfl (fun b5 => ?_)
  refine St.nil ?_
  refine St.then_normal ?_
  refine St.seq ?_
  refine St.seq ?_
  refine St.rg ?_
  refine St.ev _ (Ev.move (Opd.mk rfl)) rfl ?_
  refine St.ev _ (Ev.move (Opd.mk rfl)) rfl ?_
  refine St.ev _ (Ev.call (check_spec v0 v1 rules ks) cb24 (Opds.cons (Opd.mk rfl) (Opds.cons (Opd.mk rfl) Opds.nil))) rfl ?_
  refine St.alloc zc27 rfl (fun b6 => ?_)
  refine St.storeA (Opd.mk rfl) (Opd.mk rfl) sz27 (by first | simp only [List.length_cons, List.length_nil] | rfl) rfl ?_
  refine St.nil ?_
  refine St.then_normal ?_
  refine St.seq ?_
  refine St.rg ?_
  refine St.ev _ (Ev.fldb0 (Opd.mk rfl) fo27_0) rfl ?_
  refine St.ev _ (Ev.ldb (Opd.mk rfl) Try.underlying3 trivial (by rfl)) rfl ?_
  refine St.ev _ (Ev.neq (Opd.mk rfl) (Opd.mk rfl)) rfl ?_
  refine St.nil ?_
  refine St.then_normal ?_
  refine St.cond _ rfl (fun h13 => ?_) (fun h13 => ?_)
  · skip
    try simp only [Bool.and_true, Bool.true_and, decide_eq_true_eq, decide_eq_false_iff_not, Bool.and_eq_true, Bool.or_eq_true, Bool.and_eq_false_iff, Bool.or_eq_false_iff, Bool.not_eq_true', Bool.not_eq_false', beq_iff_eq, beq_eq_false_iff_ne, Int.not_lt, Int.not_le] at h13
    refine St.seq ?_
    refine St.par [b5] mixed ?_
    refine SW.defer 0 (by repeat (first | refine NP.then ?_ | refine NP.inBlock ?_ | exact NP.body)) (by kernel_rfl) rfl (fun R => Ev.ldbA (Opd.mk rfl) Try.underlying27 trivial (by exact sz27)) (by kernel_rfl) rfl ?_
    refine SW.defer 1 (by repeat (first | refine NP.then ?_ | refine NP.inBlock ?_ | exact NP.body)) (by kernel_rfl) rfl (fun R => Ev.assign (Opd.mk rfl)) (by kernel_rfl) rfl ?_
    refine SW.turn1 (i := 2) (by kernel_rfl) rfl ?_
    refine St.storeA (Opd.mk rfl) (Opd.mk rfl) sz27 (by first | simp only [List.length_cons, List.length_nil] | rfl) rfl ?_
    refine St.nil ?_
    refine St.then_normal ?_
    refine SW.go ?_
    refine SW.done (by kernel_rfl) ?_
    refine St.then_normal ?_
    refine St.rett ?_
    refine St.then_ret ?_
    refine St.rets [_, _] [] Try.results17 ⟨rfl, ⟨⟨_, _, _, _, rfl, InB.mem, .inl ⟨⟨_, Try.underlying27⟩, sz27, rfl⟩⟩, trivial⟩⟩ ?_ (fun _ hw => hw.sub)
    rw [countOf, if_pos h13]; exact ⟨rfl, rfl⟩
  · skip
    try simp only [Bool.and_true, Bool.true_and, decide_eq_true_eq, decide_eq_false_iff_not, Bool.and_eq_true, Bool.or_eq_true, Bool.and_eq_false_iff, Bool.or_eq_false_iff, Bool.not_eq_true', Bool.not_eq_false', beq_iff_eq, beq_eq_false_iff_ne, Int.not_lt, Int.not_le] at h13
    obtain ⟨hr, hks⟩ := chk_ok (show (chk rules ks).1 = 0 by omega)
    refine St.skip ?_
    refine St.then_normal ?_
    refine St.seq ?_
    refine St.rg ?_
    refine St.alloc zc3 rfl (fun b7 => ?_)
    refine St.store1 (Opd.mk rfl) (Opd.mk rfl) sz3 rfl (by rfl) ?_
    refine St.nil ?_
    refine St.then_normal ?_
    refine St.seq ?_
    refine St.rg ?_
    refine St.ev _ (Ev.move (Opd.mk rfl)) rfl ?_
    refine St.ev _ (Ev.move (Opd.mk rfl)) rfl ?_
    refine St.ev _ (Ev.func (Opds.cons (Opd.mk rfl) Opds.nil)) rfl ?_
    refine St.callO  (ds := [sl precR v0 rules, sl strR v1 ks, sl strR v1 ks]) (L := [blk b7 (.cells #[iv 0] 3 (0, 0))]) (R := _) (all_spec rules hr ks hks (SpC b7) (SpC_solid b7) (fun _ _ => true) ynC 33 [.pointer (some ⟨b7, 0, none⟩)] cb33 (fun _ _ => True) (fun _ _ _ _ _ => trivial) (fun _ _ _ _ _ => trivial) (sl strR v1 ks) (Count1_spec b7 ks.length _) v0 v1 0 [blk b7 (.cells #[iv 0] 3 (0, 0))] trivial rfl) cb29 (Opds.cons (Opd.mk rfl) (Opds.cons (Opd.mk rfl) (Opds.cons (Opd.mk rfl) Opds.nil))) (LentO.alld) (Solid.blk Solid.nil) (fun u H' h => SpC_solid _ _ _ h) rfl ?_
    rintro v18 _ rfl
    refine St.appl ?_
    refine St.nil ?_
    refine St.then_normal ?_
    refine St.seq ?_
    refine St.rg ?_
    refine St.ev _ (Ev.ldb (Opd.mk rfl) Try.underlying3 trivial (by rfl)) rfl ?_
    refine St.ev _ (Ev.build (ps := []) (Opds.nil) (fun w => bld27_  w)) rfl ?_
    refine St.ev _ (Ev.assign (Opd.mk rfl)) rfl ?_
    refine St.storeA (Opd.mk rfl) (Opd.mk rfl) sz27 (by first | simp only [List.length_cons, List.length_nil] | rfl) rfl ?_
    refine St.nil ?_
    refine St.then_normal ?_
    refine St.rett ?_
    refine St.rets [_, _] [] Try.results17 ⟨rfl, ⟨⟨_, _, _, _, rfl, InB.mem, .inl ⟨⟨_, Try.underlying27⟩, sz27, rfl⟩⟩, trivial⟩⟩ ?_ (fun _ hw => hw.sub)
    rw [countOf, if_neg (by omega)]; exact ⟨rfl, rfl⟩

theorem Orders_spec (v0 v1 : Value) (rules : List Prec) (ks : List Str) : FnH Try.prog 13 #[v0, v1] ([sl precR v0 rules, sl strR v1 ks].map dat) (fun v H' => ∃ vo vs, vs.length = (ordersOf rules ks).1.length ∧ v = .tuple #[vo, fv (ordersOf rules ks).2] ∧ H' = [dat (sl valR vo vs), dat (ptw intR vs (ordersOf rules ks).1)]) := by
  refine FnH.bodyd2 (args := [v0, v1]) 25 Try.func13 rfl Try.ntmps13 rfl (fun c => ?_)
  refine St.seq ?_
  refine St.rg ?_
  refine St.ev _ (Ev.assign (Opd.mk rfl)) rfl ?_
  refine St.alloc zc27 rfl (fun b5 => ?_)
  refine St.nil ?_
  refine St.then_normal ?_
  refine St.seq ?_
  refine St.seq ?_
  refine St.rg ?_
  refine St.ev _ (Ev.move (Opd.mk rfl)) rfl ?_
  refine St.ev _ (Ev.move (Opd.mk rfl)) rfl ?_
  refine St.ev _ (Ev.call (check_spec v0 v1 rules ks) cb24 (Opds.cons (Opd.mk rfl) (Opds.cons (Opd.mk rfl) Opds.nil))) rfl ?_
  refine St.alloc zc27 rfl (fun b6 => ?_)
  refine St.storeA (Opd.mk rfl) (Opd.mk rfl) sz27 (by first | simp only [List.length_cons, List.length_nil] | rfl) rfl ?_
  refine St.nil ?_
  refine St.then_normal ?_
  refine St.seq ?_
  refine St.rg ?_
  refine St.ev _ (Ev.fldb0 (Opd.mk rfl) fo27_0) rfl ?_
  refine St.ev _ (Ev.ldb (Opd.mk rfl) Try.underlying3 trivial (by rfl)) rfl ?_
  refine St.ev _ (Ev.neq (Opd.mk rfl) (Opd.mk rfl)) rfl ?_
  refine St.nil ?_
  refine St.then_normal ?_
  refine St.cond _ rfl (fun h13 => ?_) (fun h13 => ?_)
  · skip
    try simp only [Bool.and_true, Bool.true_and, decide_eq_true_eq, decide_eq_false_iff_not, Bool.and_eq_true, Bool.or_eq_true, Bool.and_eq_false_iff, Bool.or_eq_false_iff, Bool.not_eq_true', Bool.not_eq_false', beq_iff_eq, beq_eq_false_iff_ne, Int.not_lt, Int.not_le] at h13
    refine St.seq ?_
    refine St.par [b5] mixed ?_
    refine SW.defer 0 (by repeat (first | refine NP.then ?_ | refine NP.inBlock ?_ | exact NP.body)) (by kernel_rfl) rfl (fun R => Ev.ldbA (Opd.mk rfl) Try.underlying27 trivial (by exact sz27)) (by kernel_rfl) rfl ?_
    refine SW.defer 1 (by repeat (first | refine NP.then ?_ | refine NP.inBlock ?_ | exact NP.body)) (by kernel_rfl) rfl (fun R => Ev.assign (Opd.mk rfl)) (by kernel_rfl) rfl ?_
    refine SW.turn1 (i := 2) (by kernel_rfl) rfl ?_
    refine St.storeA (Opd.mk rfl) (Opd.mk rfl) sz27 (by first | simp only [List.length_cons, List.length_nil] | rfl) rfl ?_
    refine St.nil ?_
    refine St.then_normal ?_
    refine SW.go ?_
    refine SW.done (by kernel_rfl) ?_
    refine St.then_normal ?_
    refine St.rett ?_
    refine St.then_ret ?_
    refine St.nilsls (Rr := intR) ?_
    refine St.rets [_, _] [dat (sl valR (.slice none 0 0) []), dat (ptw intR [] [])] Try.results13 ⟨rfl, ⟨⟨_, _, _, _, rfl, InB.mem, .inl ⟨⟨_, Try.underlying27⟩, sz27, rfl⟩⟩, trivial⟩⟩ ?_ (fun _ hw => hw.sub)
    rw [ordersOf, if_pos h13]; exact ⟨_, [], rfl, rfl, rfl⟩
  · skip
    try simp only [Bool.and_true, Bool.true_and, decide_eq_true_eq, decide_eq_false_iff_not, Bool.and_eq_true, Bool.or_eq_true, Bool.and_eq_false_iff, Bool.or_eq_false_iff, Bool.not_eq_true', Bool.not_eq_false', beq_iff_eq, beq_eq_false_iff_ne, Int.not_lt, Int.not_le] at h13
    obtain ⟨hr, hks⟩ := chk_ok (show (chk rules ks).1 = 0 by omega)
    refine St.skip ?_
    refine St.then_normal ?_
    refine St.seq ?_
    refine St.rg ?_
    refine St.alloc zc35 rfl (fun b7 => ?_)
    refine St.nil ?_
    refine St.then_normal ?_
    refine St.seq ?_
    refine St.nilrow 24 1 ?_
    refine St.rg ?_
    refine St.ev _ (Ev.move (Opd.mk rfl)) rfl ?_
    refine St.ev _ (Ev.move (Opd.mk rfl)) rfl ?_
    refine St.ev _ (Ev.func (Opds.cons (Opd.mk rfl) Opds.nil)) rfl ?_
    refine St.callO  (ds := [sl precR v0 rules, sl strR v1 ks, sl strR v1 ks]) (L := [blk b7 (.cells #[.slice none 0 0] 35 (0, 0)), row (.slice none 0 0) 24 1 0 []]) (R := _) (all_spec rules hr ks hks (SpO b7) (SpO_solid b7) ybO ynO 30 [.pointer (some ⟨b7, 0, none⟩)] cb30 (fun _ => IvO) (fun _ _ _ _ h => h) (fun _ s l _ h => IvO_of h) (sl strR v1 ks) (Orders1_spec b7 ks.length hks _) v0 v1 [] [blk b7 (.cells #[.slice none 0 0] 35 (0, 0)), row (.slice none 0 0) 24 1 0 []] (Nat.zero_le _) ⟨(fun _ h => by cases h), _, [], rfl, rfl⟩) cb29 (Opds.cons (Opd.mk rfl) (Opds.cons (Opd.mk rfl) (Opds.cons (Opd.mk rfl) Opds.nil))) (LentO.alld) (Solid.blk (Solid.row Solid.nil)) (fun u H' h => SpO_solid _ _ _ h) rfl ?_
    rintro v18 _ ⟨hbd, vo, ps, hs, rfl⟩
    refine St.appr ?_
    have hs : ordS rules ks = (ps.map Prod.snd).reverse := hs
    have hsl : (ordS rules ks).length = ps.length := by rw [hs]; simp
    refine St.nil ?_
    refine St.then_normal ?_
    refine St.seq ?_
    refine St.seq ?_
    refine St.rg ?_
    refine St.ev _ (Ev.ldb (Opd.mk rfl) Try.underlying35 trivial (by rfl)) rfl ?_
    refine St.ev _ (Ev.lenrow (Opd.mk rfl) Try.underlying35) rfl ?_
    refine St.ev _ (Ev.gtr (Opd.mk rfl) (Opd.mk rfl)) rfl ?_
    refine St.nil ?_
    refine St.then_normal ?_
    refine St.cond _ rfl (fun h21 => ?_) (fun h21 => ?_)
    · skip
      try simp only [Bool.and_true, Bool.true_and, decide_eq_true_eq, decide_eq_false_iff_not, Bool.and_eq_true, Bool.or_eq_true, Bool.and_eq_false_iff, Bool.or_eq_false_iff, Bool.not_eq_true', Bool.not_eq_false', beq_iff_eq, beq_eq_false_iff_ne, Int.not_lt, Int.not_le] at h21
      refine St.seq ?_
      refine St.rg ?_
      refine St.ev _ (Ev.build (ps := [(0, (Operand.const (Value.int IntKind.i64 17)))]) (Opds.cons (Opd.mk rfl) Opds.nil) (fun w => bld27_0 rfl w)) rfl ?_
      refine St.ev _ (Ev.assign (Opd.mk rfl)) rfl ?_
      refine St.storeA (Opd.mk rfl) (Opd.mk rfl) sz27 (by first | simp only [List.length_cons, List.length_nil] | rfl) rfl ?_
      refine St.nil ?_
      refine St.then_normal ?_
      refine St.rett ?_
      refine St.then_ret ?_
      refine St.nilsls (Rr := intR) ?_
      refine St.rets [_, _] [dat (sl valR (.slice none 0 0) []), dat (ptw intR [] [])] Try.results13 ⟨rfl, ⟨⟨_, _, _, _, rfl, InB.mem, .inl ⟨⟨_, Try.underlying27⟩, sz27, rfl⟩⟩, trivial⟩⟩ ?_ (fun _ hw => hw.sub)
      rw [ordersOf, if_neg (by omega), if_pos (by omega)]; exact ⟨_, [], rfl, rfl, rfl⟩
    · skip
      try simp only [Bool.and_true, Bool.true_and, decide_eq_true_eq, decide_eq_false_iff_not, Bool.and_eq_true, Bool.or_eq_true, Bool.and_eq_false_iff, Bool.or_eq_false_iff, Bool.not_eq_true', Bool.not_eq_false', beq_iff_eq, beq_eq_false_iff_ne, Int.not_lt, Int.not_le] at h21
      refine St.skip ?_
      refine St.then_normal ?_
      refine St.seq ?_
      refine St.rg ?_
      refine St.ev _ (Ev.ldb (Opd.mk rfl) Try.underlying35 trivial (by rfl)) rfl ?_
      refine St.ev _ (Ev.build (ps := []) (Opds.nil) (fun w => bld27_  w)) rfl ?_
      refine St.ev _ (Ev.assign (Opd.mk rfl)) rfl ?_
      refine St.storeA (Opd.mk rfl) (Opd.mk rfl) sz27 (by first | simp only [List.length_cons, List.length_nil] | rfl) rfl ?_
      refine St.nil ?_
      refine St.then_normal ?_
      refine St.rett ?_
      refine St.publish vo valR (ps.map Prod.fst).reverse rfl (by simp) (fun _ _ => trivial) ?_
      refine St.publishRev (e := 3) (Rr := intR) ps (fun p hp x hx => by have := hbd p.2 (by rw [show (walkF rules ks ybO ynO ks.length [] []).2 = (ps.map Prod.snd).reverse from hs]; exact List.mem_reverse.2 (List.mem_map_of_mem hp)) x hx; exact ⟨by omega, by omega⟩) ?_
      refine St.rets [_, _] [dat (sl valR vo (ps.map Prod.fst).reverse), dat (ptw intR (ps.map Prod.fst).reverse (ps.map Prod.snd).reverse)] Try.results13 ⟨rfl, ⟨⟨_, _, _, _, rfl, InB.mem, .inl ⟨⟨_, Try.underlying27⟩, sz27, rfl⟩⟩, trivial⟩⟩ ?_ (fun _ hw => hw.sub)
      rw [ordersOf, if_neg (by omega), if_neg (by omega), hs]; exact ⟨_, _, by simp, rfl, rfl⟩

theorem First_spec (v0 v1 : Value) (rules : List Prec) (ks : List Str) : FnH Try.prog 18 #[v0, v1] ([sl precR v0 rules, sl strR v1 ks].map dat) (fun v H' => ∃ vo, v = .tuple #[vo, .bool (firstOf rules ks).1.isSome, fv (firstOf rules ks).2] ∧ H' = [dat (sl intR vo ((firstOf rules ks).1.getD []))]) := by
  refine FnH.bodyd2 (args := [v0, v1]) 24 Try.func18 rfl Try.ntmps18 rfl (fun c => ?_)
  refine St.seq ?_
  refine St.rg ?_
  refine St.ev _ (Ev.assign (Opd.mk rfl)) rfl ?_
  refine St.ev _ (Ev.assign (Opd.mk rfl)) rfl ?_
  refine St.alloc zc27 rfl (fun b6 => ?_)
  refine St.nil ?_
  refine St.then_normal ?_
  refine St.seq ?_
  refine St.seq ?_
  refine St.rg ?_
  refine St.ev _ (Ev.move (Opd.mk rfl)) rfl ?_
  refine St.ev _ (Ev.move (Opd.mk rfl)) rfl ?_
  refine St.ev _ (Ev.call (check_spec v0 v1 rules ks) cb24 (Opds.cons (Opd.mk rfl) (Opds.cons (Opd.mk rfl) Opds.nil))) rfl ?_
  refine St.alloc zc27 rfl (fun b7 => ?_)
  refine St.storeA (Opd.mk rfl) (Opd.mk rfl) sz27 (by first | simp only [List.length_cons, List.length_nil] | rfl) rfl ?_
  refine St.nil ?_
  refine St.then_normal ?_
  refine St.seq ?_
  refine St.rg ?_
  refine St.ev _ (Ev.fldb0 (Opd.mk rfl) fo27_0) rfl ?_
  refine St.ev _ (Ev.ldb (Opd.mk rfl) Try.underlying3 trivial (by rfl)) rfl ?_
  refine St.ev _ (Ev.neq (Opd.mk rfl) (Opd.mk rfl)) rfl ?_
  refine St.nil ?_
  refine St.then_normal ?_
  refine St.cond _ rfl (fun h15 => ?_) (fun h15 => ?_)
  · skip
    try simp only [Bool.and_true, Bool.true_and, decide_eq_true_eq, decide_eq_false_iff_not, Bool.and_eq_true, Bool.or_eq_true, Bool.and_eq_false_iff, Bool.or_eq_false_iff, Bool.not_eq_true', Bool.not_eq_false', beq_iff_eq, beq_eq_false_iff_ne, Int.not_lt, Int.not_le] at h15
    refine St.seq ?_
    refine St.par [b6] mixed ?_
    refine SW.defer 0 (by repeat (first | refine NP.then ?_ | refine NP.inBlock ?_ | exact NP.body)) (by kernel_rfl) rfl (fun R => Ev.ldbA (Opd.mk rfl) Try.underlying27 trivial (by exact sz27)) (by kernel_rfl) rfl ?_
    refine SW.defer 1 (by repeat (first | refine NP.then ?_ | refine NP.inBlock ?_ | exact NP.body)) (by kernel_rfl) rfl (fun R => Ev.assign (Opd.mk rfl)) (by kernel_rfl) rfl ?_
    refine SW.defer 2 (by repeat (first | refine NP.then ?_ | refine NP.inBlock ?_ | exact NP.body)) (by kernel_rfl) rfl (fun R => Ev.assign (Opd.mk rfl)) (by kernel_rfl) rfl ?_
    refine SW.turn1 (i := 3) (by kernel_rfl) rfl ?_
    refine St.storeA (Opd.mk rfl) (Opd.mk rfl) sz27 (by first | simp only [List.length_cons, List.length_nil] | rfl) rfl ?_
    refine St.nil ?_
    refine St.then_normal ?_
    refine SW.go ?_
    refine SW.done (by kernel_rfl) ?_
    refine St.then_normal ?_
    refine St.rett ?_
    refine St.then_ret ?_
    refine St.fact (sl intR (.slice none 0 0) []) (fun _ _ _ => sl_nil _ _) ?_
    refine St.rets [_, _, _] [dat (sl intR (.slice none 0 0) [])] Try.results18 ⟨rfl, ⟨rfl, ⟨⟨_, _, _, _, rfl, InB.mem, .inl ⟨⟨_, Try.underlying27⟩, sz27, rfl⟩⟩, trivial⟩⟩⟩ ?_ (fun _ hw => hw.sub)
    rw [firstOf, if_pos h15]; exact ⟨_, rfl, rfl⟩
  · skip
    try simp only [Bool.and_true, Bool.true_and, decide_eq_true_eq, decide_eq_false_iff_not, Bool.and_eq_true, Bool.or_eq_true, Bool.and_eq_false_iff, Bool.or_eq_false_iff, Bool.not_eq_true', Bool.not_eq_false', beq_iff_eq, beq_eq_false_iff_ne, Int.not_lt, Int.not_le] at h15
    obtain ⟨hr, hks⟩ := chk_ok (show (chk rules ks).1 = 0 by omega)
    refine St.skip ?_
    refine St.then_normal ?_
    refine St.seq ?_
    refine St.rg ?_
    refine St.alloc zc24 rfl (fun b8 => ?_)
    refine St.nil ?_
    refine St.then_normal ?_
    refine St.seq ?_
    refine St.rg ?_
    refine St.alloc zc4 rfl (fun b9 => ?_)
    refine St.store1 (Opd.mk rfl) (Opd.mk rfl) sz4 rfl (by rfl) ?_
    refine St.nil ?_
    refine St.then_normal ?_
    refine St.seq ?_
    refine St.nilrow 3 1 ?_
    refine St.rg ?_
    refine St.ev _ (Ev.move (Opd.mk rfl)) rfl ?_
    refine St.ev _ (Ev.move (Opd.mk rfl)) rfl ?_
    refine St.ev _ (Ev.func (Opds.cons (Opd.mk rfl) (Opds.cons (Opd.mk rfl) Opds.nil))) rfl ?_
    refine St.callO  (ds := [sl precR v0 rules, sl strR v1 ks, sl strR v1 ks]) (L := [blk b8 (.cells #[.slice none 0 0] 24 (0, 0)), blk b9 (.cells #[.bool false] 4 (0, 0)), row (.slice none 0 0) 3 1 0 []]) (R := _) (all_spec rules hr ks hks (SpF b8 b9) (SpF_solid b8 b9) (fun _ _ => false) (fun _ l => some l) 34 [.pointer (some ⟨b8, 0, none⟩), .pointer (some ⟨b9, 0, none⟩)] cb34 (fun _ s => s = none) (fun _ _ _ _ h => h) (fun _ _ _ _ h => by cases h) (sl strR v1 ks) (First1_spec b8 b9 ks.length hks _) v0 v1 none [blk b8 (.cells #[.slice none 0 0] 24 (0, 0)), blk b9 (.cells #[.bool false] 4 (0, 0)), row (.slice none 0 0) 3 1 0 []] rfl ⟨(fun _ h => by cases h), _, rfl⟩) cb29 (Opds.cons (Opd.mk rfl) (Opds.cons (Opd.mk rfl) (Opds.cons (Opd.mk rfl) Opds.nil))) (LentO.alld) (Solid.blk (Solid.blk (Solid.row Solid.nil))) (fun u H' h => SpF_solid _ _ _ _ h) rfl ?_
    rintro v20 _ ⟨hbd, vo, rfl⟩
    refine St.appr ?_
    have hf : firstOf rules ks = ((walkF rules ks (fun _ _ => false) (fun _ l => some l) ks.length [] none).2, (0, 0)) := by rw [firstOf, if_neg (by omega)]
    generalize (walkF rules ks (fun _ _ => false) (fun _ l => some l) ks.length [] none).2 = so at *
    refine St.nil ?_
    refine St.then_normal ?_
    refine St.seq ?_
    refine St.par [b6] mixed ?_
    refine SW.defer 0 (by repeat (first | refine NP.then ?_ | refine NP.inBlock ?_ | exact NP.body)) (by kernel_rfl) rfl (fun R => Ev.ldb (Opd.mk rfl) Try.underlying24 trivial (by rfl)) (by kernel_rfl) rfl ?_
    refine SW.defer 1 (by repeat (first | refine NP.then ?_ | refine NP.inBlock ?_ | exact NP.body)) (by kernel_rfl) rfl (fun R => Ev.ldb (Opd.mk rfl) Try.underlying4 trivial (by rfl)) (by kernel_rfl) rfl ?_
    refine SW.defer 2 (by repeat (first | refine NP.then ?_ | refine NP.inBlock ?_ | exact NP.body)) (by kernel_rfl) rfl (fun R => Ev.build (ps := []) (Opds.nil) (fun w => bld27_  w)) (by kernel_rfl) rfl ?_
    refine SW.defer 3 (by repeat (first | refine NP.then ?_ | refine NP.inBlock ?_ | exact NP.body)) (by kernel_rfl) rfl (fun R => Ev.assign (Opd.mk rfl)) (by kernel_rfl) rfl ?_
    refine SW.defer 4 (by repeat (first | refine NP.then ?_ | refine NP.inBlock ?_ | exact NP.body)) (by kernel_rfl) rfl (fun R => Ev.assign (Opd.mk rfl)) (by kernel_rfl) rfl ?_
    refine SW.turn1 (i := 5) (by kernel_rfl) rfl ?_
    refine St.storeA (Opd.mk rfl) (Opd.mk rfl) sz27 (by first | simp only [List.length_cons, List.length_nil] | rfl) rfl ?_
    refine St.nil ?_
    refine St.then_normal ?_
    refine SW.go ?_
    refine SW.done (by kernel_rfl) ?_
    refine St.then_normal ?_
    refine St.rett ?_
    refine St.publish vo intR (so.getD []) rfl rfl (fun x hx => by have := hbd x hx; exact ⟨by omega, by omega⟩) ?_
    refine St.rets [_, _, _] [dat (sl intR vo (so.getD []))] Try.results18 ⟨rfl, ⟨rfl, ⟨⟨_, _, _, _, rfl, InB.mem, .inl ⟨⟨_, Try.underlying27⟩, sz27, rfl⟩⟩, trivial⟩⟩⟩ ?_ (fun _ hw => hw.sub)
    rw [hf]; exact ⟨_, rfl, rfl⟩

end Go.Proofs.Ytblnbjlcpleaaaa
