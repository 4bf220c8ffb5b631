/-
  The next permutation, and the list of all permutations that break no rule, in the reference.
  Conditions: the lists are short.
-/
import Derived.Test.YtblnbjlcpleaaaaW8
import Derived.Test.YtblnbjlcpleaaaaOrdN
import Derived.Test.YtblnbjlcpleaaaaJ11
set_option linter.unusedSimpArgs false
set_option linter.unusedVariables false
namespace Go.Proofs.Ytblnbjlcpleaaaa
open Go Go.J


theorem rows_map (l : List Int) : rows intR l = l.map iv := by
  induction l with
  | nil => rfl
  | cons x l ih => simp only [rows, List.flatMap_cons, List.map_cons] at ih ⊢; rw [ih]; rfl
theorem rowI {l : List Int} {k : Nat} (h : k < l.length) : (rows intR l)[k * 1 + 0]? = some (iv (l.getD k 0)) := by
  rw [rows_map, Nat.mul_one, Nat.add_zero, List.getElem?_map, some_getD 0 h]; rfl
theorem rowI_set (l : List Int) (k : Nat) (x : Int) : (rows intR l).set (k * 1 + 0) (iv x) = rows intR (l.set k x) := by
  rw [Nat.mul_one, Nat.add_zero, rows_set1 (Rr := intR) rfl rfl]
/-- what OrderAfter answers -/
def afterV (l : List Int) (v : Value) (H : List Ent) : Prop := ∃ vo, v = .tuple #[vo, .bool (nextR l).isSome] ∧ H = [row vo 3 1 ((nextR l).getD []).length (rows intR ((nextR l).getD []))]
theorem afterV_solid {l : List Int} {v : Value} {H : List Ent} (h : afterV l v H) : Solid H := by
  obtain ⟨_, _, rfl⟩ := h; exact Solid.row Solid.nil
theorem iota_snoc {n k : Nat} (h : k < n) : (iota n).take (k + 1) = (iota n).take k ++ [(k : Int)] := take_of_some (by simp [iota, h])
theorem leaves_small {n : Nat} (h : n ≤ 7) : (leaves n n []).length ≤ 823543 := by
  refine Nat.le_trans (leaves_len n n []) ?_
  have : n = 0 ∨ n = 1 ∨ n = 2 ∨ n = 3 ∨ n = 4 ∨ n = 5 ∨ n = 6 ∨ n = 7 := by omega
  rcases this with h | h | h | h | h | h | h | h <;> rw [h] <;> decide
theorem St.cast {n : Nat} {F : Fr} {c : Ctx} {H H' : List Ent} {T : Act → World → Prop} (h : H = H') (k : St n F (Mm c H') T) : St n F (Mm c H) T := by rw [h]; exact k
theorem isSome_get {α : Type} {L : List α} {j : Nat} : (L[j]?).isSome = decide (j < L.length) := by
  by_cases h : j < L.length
  · rw [List.getElem?_eq_getElem h]; simp [h]
  · rw [List.getElem?_eq_none (by omega)]; simp [h]
theorem getD_of_get {α : Type} {L : List α} {j : Nat} {d : α} : (L[j]?).getD d = L.getD j d := by rw [List.getD_eq_getElem?_getD]

theorem OrderAfter_spec (v0 : Value) (l : List Int) (hl7 : l.length ≤ 7) : FnH Try.prog 35 #[v0] ([sl intR v0 l].map dat) (fun v H' => afterV l v H') := by
  refine FnH.bodyd1 (args := [v0]) 100 Try.func35 rfl Try.ntmps35 rfl (fun c => ?_)
  refine St.seq ?_
  refine St.rg ?_
  refine St.ev _ (Ev.assign (Opd.mk rfl)) rfl ?_
  refine St.ev _ (Ev.assign (Opd.mk rfl)) rfl ?_
  refine St.nil ?_
  refine St.then_normal ?_
  refine St.seq ?_
  refine St.rg ?_
  refine St.buildSl (xs := []) (ps := []) rfl (Opds.nil) Try.underlying24 sz3 zv3 rfl rfl (by simp [Value.cells]) rfl rfl (fun b10 => ?_)
  refine St.ev _ (Ev.assign (Opd.mk rfl)) rfl ?_
  refine St.nil ?_
  refine St.then_normal ?_
  refine St.seq ?_
  refine St.seq ?_
  refine St.rg ?_
  refine St.ev _ (Ev.assign (Opd.mk rfl)) rfl ?_
  refine St.nil ?_
  refine St.then_normal ?_
  refine St.block ?_
  refine St.rowEqN (.slice (some ⟨b10, 0, none⟩) 0 0) (show _ = 0 from rfl) (show _ = rows intR (l.take 0) from rfl) ?_
  refine St.loopH2 (ι := Nat) (κ := Value) (fun k v T => (5, iv k) :: (4, v) :: T) (fun k v => [row v 3 1 k (rows intR (l.take k)), dat (sl intR v0 l)]) (fun k v => k ≤ l.length) (fun k v => l.length - k) 0 (.slice (some ⟨b10, 0, none⟩) 0 0) (Keep.cons 0 rfl (Keep.cons 2 rfl (Keep.cons 3 rfl Keep.nil))) (Nat.zero_le _) (by repeat (first | exact Sub.nil | refine Sub.cons (by first | rfl | exact congrArg (fun z => some (iv z)) (by first | omega | (dsimp only; omega)) | exact congrArg (fun z => some (Value.bool z)) (by first | assumption | exact Eq.symm (by assumption))) ?_)) (fun _ hw => hw.sub) ?_
  intro k v hphi
  refine St.seq ?_
  refine St.seq ?_
  refine St.rg ?_
  refine St.ev _ (Ev.move (Opd.mk rfl)) rfl ?_
  refine St.ev _ (Ev.move (Opd.mk rfl)) rfl ?_
  refine St.ev _ (Ev.lensl (Opd.mk rfl) Try.underlying24) rfl ?_
  refine St.ev _ (Ev.lss (Opd.mk rfl) (Opd.mk rfl)) rfl ?_
  refine St.nil ?_
  refine St.then_normal ?_
  refine St.cond _ rfl (fun h14 => ?_) (fun h14 => ?_)
  · skip
    try simp only [Bool.and_true, Bool.true_and, decide_eq_true_eq, decide_eq_false_iff_not, Bool.and_eq_true, Bool.or_eq_true, Bool.and_eq_false_iff, Bool.or_eq_false_iff, Bool.not_eq_true', Bool.not_eq_false', beq_iff_eq, beq_eq_false_iff_ne, Int.not_lt, Int.not_le] at h14
    refine St.skip ?_
    refine St.then_normal ?_
    refine St.seq ?_
    refine St.block ?_
    refine St.rg ?_
    refine St.ev _ (Ev.move (Opd.mk rfl)) rfl ?_
    refine St.ev _ (Ev.move (Opd.mk rfl)) rfl ?_
    refine St.ev _ (Ev.move (Opd.mk rfl)) rfl ?_
    refine St.ev _ (Ev.idxaddr  (Opd.mk rfl) (Opd.mk rfl) Try.underlying24 sz3 rfl (by omega)) rfl ?_
    refine St.ev _ (Ev.ld1 (Opd.mk rfl) (by first | assumption | exact some_getD 0 (by omega)) Try.underlying3 trivial rfl) rfl ?_
    refine St.buildSl (xs := [(Operand.tmp 21)]) (ps := [(0, (Operand.tmp 21))]) rfl (Opds.cons (Opd.mk rfl) Opds.nil) Try.underlying24 sz3 zv3 rfl rfl (by simp [Value.cells]) rfl rfl (fun b22 => ?_)
    refine St.appendRow (Opd.mk rfl) (Opd.mk rfl) Try.underlying24 sz3 zv3 by3 (by simp [Value.oneCell', Value.cells]) (by omega) (by omega) rfl rfl rfl rfl (fun v23 hv23 => ?_)
    refine St.ev _ (Ev.assign (Opd.mk rfl)) rfl ?_
    refine St.nil ?_
    refine St.in_normal ?_
    refine St.then_normal ?_
    refine St.rg ?_
    refine St.ev _ (Ev.move (Opd.mk rfl)) rfl ?_
    refine St.ev _ (Ev.add (Opd.mk rfl) (Opd.mk rfl) (by omega)) rfl ?_
    refine St.ev _ (Ev.assign (Opd.mk rfl)) rfl ?_
    refine St.nil ?_
    refine St.then_normal ?_
    refine St.rowEqN v23 (show _ = k + 1 by omega) (show _ = rows intR (l.take (k + 1)) by rw [take_of_some (some_getD 0 (show k < l.length by omega)), rows_snoc]; rfl) ?_
    refine St.againH2 (k + 1) v23 (by omega) (by first | omega | (dsimp only; omega)) (by repeat (first | exact Sub.nil | refine Sub.cons (by first | rfl | exact congrArg (fun z => some (iv z)) (by first | omega | (dsimp only; omega)) | exact congrArg (fun z => some (Value.bool z)) (by first | assumption | exact Eq.symm (by assumption))) ?_)) (fun _ hw => hw.sub)
  · skip
    try simp only [Bool.and_true, Bool.true_and, decide_eq_true_eq, decide_eq_false_iff_not, Bool.and_eq_true, Bool.or_eq_true, Bool.and_eq_false_iff, Bool.or_eq_false_iff, Bool.not_eq_true', Bool.not_eq_false', beq_iff_eq, beq_eq_false_iff_ne, Int.not_lt, Int.not_le] at h14
    have ek : l.take k = l := List.take_of_length_le (by omega)
    rw [ek]
    obtain rfl : k = l.length := by omega
    refine St.sub [row v 3 1 l.length (rows intR l)] ?_
    refine St.exit ?_
    refine St.then_exit ?_
    refine St.then_exit ?_
    refine St.in_hit ?_
    refine St.then_normal ?_
    refine St.seq ?_
    refine St.rg ?_
    refine St.ev _ (Ev.move (Opd.mk rfl)) rfl ?_
    refine St.ev _ (Ev.lenrow (Opd.mk rfl) Try.underlying24) rfl ?_
    refine St.ev _ (Ev.sub (Opd.mk rfl) (Opd.mk rfl) (by omega)) rfl ?_
    refine St.ev _ (Ev.assign (Opd.mk rfl)) rfl ?_
    refine St.nil ?_
    refine St.then_normal ?_
    refine St.seq ?_
    refine St.block ?_
    refine St.loopS (ι := Nat) (fun j T => (6, iv ((l.length : Int) - 2 - (j : Nat))) :: T) (fun j => j ≤ l.length - 1 ∧ (l.drop (l.length - 1 - j)).Pairwise (· > ·)) (fun j => l.length - j) 0 (Keep.cons 2 rfl (Keep.cons 3 rfl (Keep.cons 4 rfl Keep.nil))) ⟨Nat.zero_le _, desc_zero l⟩ (by repeat (first | exact Sub.nil | refine Sub.cons (by first | rfl | exact congrArg (fun z => some (iv z)) (by first | omega | (dsimp only; omega)) | exact congrArg (fun z => some (Value.bool z)) (by first | assumption | exact Eq.symm (by assumption))) ?_)) ?_
    intro j hphi
    obtain ⟨hj, hdesc⟩ := hphi
    refine St.seq ?_
    refine St.seq ?_
    refine St.rq mixed (by kernel_rfl) (Mm.drawn _ _) ?_
    refine Sq.ev _ (Ev.move (Opd.mk rfl)) rfl ?_
    refine Sq.ev _ (Ev.geq (Opd.mk rfl) (Opd.mk rfl)) rfl ?_
    refine Sq.ev _ (Ev.move (Opd.mk rfl)) rfl ?_
    refine Sq.gt _ rfl rfl (fun hg => Ev.move (Opd.mk rfl)) rfl ?_
    refine Sq.gt _ rfl rfl (fun hg => Ev.move (Opd.mk rfl)) rfl ?_
    refine Sq.gt _ rfl rfl (fun hg => Ev.idxaddrrow (k := (l.length - 2 - j)) (Opd.gv rfl hg) (Opd.gv rfl hg) Try.underlying24 sz3 (by first | omega | (simp only [Bool.and_true, Bool.true_and, decide_eq_true_eq, decide_eq_false_iff_not, Bool.and_eq_true, Bool.or_eq_true, Bool.and_eq_false_iff, Bool.or_eq_false_iff, Bool.not_eq_true', Bool.not_eq_false', beq_iff_eq, beq_eq_false_iff_ne, Int.not_lt, Int.not_le] at hg; omega)) (by first | omega | (simp only [Bool.and_true, Bool.true_and, decide_eq_true_eq, decide_eq_false_iff_not, Bool.and_eq_true, Bool.or_eq_true, Bool.and_eq_false_iff, Bool.or_eq_false_iff, Bool.not_eq_true', Bool.not_eq_false', beq_iff_eq, beq_eq_false_iff_ne, Int.not_lt, Int.not_le] at hg; omega))) rfl ?_
    refine Sq.gt _ rfl rfl (fun hg => Ev.ldrow (Opd.gv rfl hg) Try.underlying3 trivial (by first | omega | (simp only [Bool.and_true, Bool.true_and, decide_eq_true_eq, decide_eq_false_iff_not, Bool.and_eq_true, Bool.or_eq_true, Bool.and_eq_false_iff, Bool.or_eq_false_iff, Bool.not_eq_true', Bool.not_eq_false', beq_iff_eq, beq_eq_false_iff_ne, Int.not_lt, Int.not_le] at hg; omega)) (rowI (by first | omega | (simp only [Bool.and_true, Bool.true_and, decide_eq_true_eq, decide_eq_false_iff_not, Bool.and_eq_true, Bool.or_eq_true, Bool.and_eq_false_iff, Bool.or_eq_false_iff, Bool.not_eq_true', Bool.not_eq_false', beq_iff_eq, beq_eq_false_iff_ne, Int.not_lt, Int.not_le] at hg; omega)))) rfl ?_
    refine Sq.gt _ rfl rfl (fun hg => Ev.move (Opd.mk rfl)) rfl ?_
    refine Sq.gt _ rfl rfl (fun hg => Ev.move (Opd.mk rfl)) rfl ?_
    refine Sq.gt _ rfl rfl (fun hg => Ev.add (Opd.gv rfl hg) (Opd.mk rfl) (by first | omega | (simp only [Bool.and_true, Bool.true_and, decide_eq_true_eq, decide_eq_false_iff_not, Bool.and_eq_true, Bool.or_eq_true, Bool.and_eq_false_iff, Bool.or_eq_false_iff, Bool.not_eq_true', Bool.not_eq_false', beq_iff_eq, beq_eq_false_iff_ne, Int.not_lt, Int.not_le] at hg; omega))) rfl ?_
    refine Sq.gt _ rfl rfl (fun hg => Ev.idxaddrrow (k := (l.length - 1 - j)) (Opd.gv rfl hg) (Opd.gv rfl hg) Try.underlying24 sz3 (by first | omega | (simp only [Bool.and_true, Bool.true_and, decide_eq_true_eq, decide_eq_false_iff_not, Bool.and_eq_true, Bool.or_eq_true, Bool.and_eq_false_iff, Bool.or_eq_false_iff, Bool.not_eq_true', Bool.not_eq_false', beq_iff_eq, beq_eq_false_iff_ne, Int.not_lt, Int.not_le] at hg; omega)) (by first | omega | (simp only [Bool.and_true, Bool.true_and, decide_eq_true_eq, decide_eq_false_iff_not, Bool.and_eq_true, Bool.or_eq_true, Bool.and_eq_false_iff, Bool.or_eq_false_iff, Bool.not_eq_true', Bool.not_eq_false', beq_iff_eq, beq_eq_false_iff_ne, Int.not_lt, Int.not_le] at hg; omega))) rfl ?_
    refine Sq.gt _ rfl rfl (fun hg => Ev.ldrow (Opd.gv rfl hg) Try.underlying3 trivial (by first | omega | (simp only [Bool.and_true, Bool.true_and, decide_eq_true_eq, decide_eq_false_iff_not, Bool.and_eq_true, Bool.or_eq_true, Bool.and_eq_false_iff, Bool.or_eq_false_iff, Bool.not_eq_true', Bool.not_eq_false', beq_iff_eq, beq_eq_false_iff_ne, Int.not_lt, Int.not_le] at hg; omega)) (rowI (by first | omega | (simp only [Bool.and_true, Bool.true_and, decide_eq_true_eq, decide_eq_false_iff_not, Bool.and_eq_true, Bool.or_eq_true, Bool.and_eq_false_iff, Bool.or_eq_false_iff, Bool.not_eq_true', Bool.not_eq_false', beq_iff_eq, beq_eq_false_iff_ne, Int.not_lt, Int.not_le] at hg; omega)))) rfl ?_
    refine Sq.gt _ rfl rfl (fun hg => Ev.gtr (Opd.gv rfl hg) (Opd.gv rfl hg)) rfl ?_
    refine Sq.ev _ (Ev.and (Opd.mk rfl) (fun hp => Opd.gv rfl hp)) rfl ?_
    refine Sq.nil ?_
    refine St.then_normal ?_
    refine St.cond _ rfl (fun h40 => ?_) (fun h40 => ?_)
    · skip
      try simp only [Bool.and_true, Bool.true_and, decide_eq_true_eq, decide_eq_false_iff_not, Bool.and_eq_true, Bool.or_eq_true, Bool.and_eq_false_iff, Bool.or_eq_false_iff, Bool.not_eq_true', Bool.not_eq_false', beq_iff_eq, beq_eq_false_iff_ne, Int.not_lt, Int.not_le] at h40
      refine St.skip ?_
      refine St.then_normal ?_
      refine St.block ?_
      refine St.rg ?_
      refine St.ev _ (Ev.move (Opd.mk rfl)) rfl ?_
      refine St.ev _ (Ev.sub (Opd.mk rfl) (Opd.mk rfl) (by omega)) rfl ?_
      refine St.ev _ (Ev.assign (Opd.mk rfl)) rfl ?_
      refine St.nil ?_
      refine St.in_normal ?_
      refine St.then_normal ?_
      refine St.againS (j + 1) ⟨by omega, by have := desc_step (l := l) (i := l.length - 1 - (j + 1)) (by omega) (by rw [show l.length - 1 - (j + 1) + 1 = l.length - 1 - j by omega]; exact hdesc) (by rw [show l.length - 1 - (j + 1) + 1 = l.length - 1 - j by omega, show l.length - 1 - (j + 1) = l.length - 2 - j by omega]; omega); exact this⟩ (by first | omega | (dsimp only; omega)) (by repeat (first | exact Sub.nil | refine Sub.cons (by first | rfl | exact congrArg (fun z => some (iv z)) (by first | omega | (dsimp only; omega)) | exact congrArg (fun z => some (Value.bool z)) (by first | assumption | exact Eq.symm (by assumption))) ?_)) (fun _ hw => hw.sub)
    · skip
      try simp only [Bool.and_true, Bool.true_and, decide_eq_true_eq, decide_eq_false_iff_not, Bool.and_eq_true, Bool.or_eq_true, Bool.and_eq_false_iff, Bool.or_eq_false_iff, Bool.not_eq_true', Bool.not_eq_false', beq_iff_eq, beq_eq_false_iff_ne, Int.not_lt, Int.not_le] at h40
      refine St.exit ?_
      refine St.then_exit ?_
      refine St.then_exit ?_
      refine St.in_hit ?_
      refine St.then_normal ?_
      refine St.seq ?_
      refine St.seq ?_
      refine St.rg ?_
      refine St.ev _ (Ev.move (Opd.mk rfl)) rfl ?_
      refine St.ev _ (Ev.lss (Opd.mk rfl) (Opd.mk rfl)) rfl ?_
      refine St.nil ?_
      refine St.then_normal ?_
      refine St.cond _ rfl (fun h44 => ?_) (fun h44 => ?_)
      · skip
        try simp only [Bool.and_true, Bool.true_and, decide_eq_true_eq, decide_eq_false_iff_not, Bool.and_eq_true, Bool.or_eq_true, Bool.and_eq_false_iff, Bool.or_eq_false_iff, Bool.not_eq_true', Bool.not_eq_false', beq_iff_eq, beq_eq_false_iff_ne, Int.not_lt, Int.not_le] at h44
        have hn : nextR l = none := nextR_desc (by rw [show l.length - 1 - j = 0 by omega, List.drop_zero] at hdesc; exact hdesc)
        refine St.seq ?_
        refine St.rg ?_
        refine St.ev _ (Ev.assign (Opd.mk rfl)) rfl ?_
        refine St.ev _ (Ev.assign (Opd.mk rfl)) rfl ?_
        refine St.nil ?_
        refine St.then_normal ?_
        refine St.rett ?_
        refine St.then_ret ?_
        refine St.nilrow 3 1 ?_
        refine St.rets [_, _] [row (.slice none 0 0) 3 1 0 []] Try.results35 ⟨rfl, ⟨rfl, trivial⟩⟩ ?_ (fun _ hw => hw.sub)
        unfold afterV; rw [hn]; exact ⟨_, rfl, rfl⟩
      · skip
        try simp only [Bool.and_true, Bool.true_and, decide_eq_true_eq, decide_eq_false_iff_not, Bool.and_eq_true, Bool.or_eq_true, Bool.and_eq_false_iff, Bool.or_eq_false_iff, Bool.not_eq_true', Bool.not_eq_false', beq_iff_eq, beq_eq_false_iff_ne, Int.not_lt, Int.not_le] at h44
        obtain ⟨i, hi⟩ : ∃ i, i = l.length - 2 - j := ⟨_, rfl⟩
        have hd1 : (l.drop (i + 1)).Pairwise (· > ·) := by rw [show i + 1 = l.length - 1 - j by omega]; exact hdesc
        have hx1 : l.getD i 0 ≤ l.getD (i + 1) 0 := by rw [show i + 1 = l.length - 1 - j by omega, hi]; omega
        refine St.skip ?_
        refine St.then_normal ?_
        refine St.seq ?_
        refine St.rg ?_
        refine St.ev _ (Ev.move (Opd.mk rfl)) rfl ?_
        refine St.ev _ (Ev.lenrow (Opd.mk rfl) Try.underlying24) rfl ?_
        refine St.ev _ (Ev.sub (Opd.mk rfl) (Opd.mk rfl) (by omega)) rfl ?_
        refine St.ev _ (Ev.assign (Opd.mk rfl)) rfl ?_
        refine St.nil ?_
        refine St.then_normal ?_
        refine St.seq ?_
        refine St.block ?_
        refine St.loopS (ι := Nat) (fun m T => (7, iv ((l.length : Int) - 1 - (m : Nat))) :: T) (fun m => m < l.length - 1 - i ∧ ∀ z ∈ l.drop (l.length - m), z < l.getD i 0) (fun m => l.length - m) 0 (Keep.cons 2 rfl (Keep.cons 3 rfl (Keep.cons 4 rfl (Keep.cons 6 rfl Keep.nil)))) ⟨by omega, by rw [Nat.sub_zero, List.drop_of_length_le (Nat.le_refl _)]; intro z hz; cases hz⟩ (by repeat (first | exact Sub.nil | refine Sub.cons (by first | rfl | exact congrArg (fun z => some (iv z)) (by first | omega | (dsimp only; omega)) | exact congrArg (fun z => some (Value.bool z)) (by first | assumption | exact Eq.symm (by assumption))) ?_)) ?_
        intro m hphi
        obtain ⟨hm, hbel⟩ := hphi
        refine St.seq ?_
        refine St.seq ?_
        refine St.rq mixed (by kernel_rfl) (Mm.drawn _ _) ?_
        refine Sq.ev _ (Ev.move (Opd.mk rfl)) rfl ?_
        refine Sq.ev _ (Ev.move (Opd.mk rfl)) rfl ?_
        refine Sq.ev _ (Ev.idxaddrrow (k := (l.length - 1 - m)) (Opd.mk rfl) (Opd.mk rfl) Try.underlying24 sz3 (by omega) (by omega)) rfl ?_
        refine Sq.ev _ (Ev.ldrow (Opd.mk rfl) Try.underlying3 trivial (by omega) (rowI (by omega))) rfl ?_
        refine Sq.ev _ (Ev.move (Opd.mk rfl)) rfl ?_
        refine Sq.ev _ (Ev.move (Opd.mk rfl)) rfl ?_
        refine Sq.ev _ (Ev.idxaddrrow (k := (l.length - 2 - j)) (Opd.mk rfl) (Opd.mk rfl) Try.underlying24 sz3 (by omega) (by omega)) rfl ?_
        refine Sq.ev _ (Ev.ldrow (Opd.mk rfl) Try.underlying3 trivial (by omega) (rowI (by omega))) rfl ?_
        refine Sq.ev _ (Ev.lss (Opd.mk rfl) (Opd.mk rfl)) rfl ?_
        refine Sq.nil ?_
        refine St.then_normal ?_
        refine St.cond _ rfl (fun h56 => ?_) (fun h56 => ?_)
        · skip
          try simp only [Bool.and_true, Bool.true_and, decide_eq_true_eq, decide_eq_false_iff_not, Bool.and_eq_true, Bool.or_eq_true, Bool.and_eq_false_iff, Bool.or_eq_false_iff, Bool.not_eq_true', Bool.not_eq_false', beq_iff_eq, beq_eq_false_iff_ne, Int.not_lt, Int.not_le] at h56
          refine St.skip ?_
          refine St.then_normal ?_
          refine St.block ?_
          refine St.rg ?_
          refine St.ev _ (Ev.move (Opd.mk rfl)) rfl ?_
          refine St.ev _ (Ev.sub (Opd.mk rfl) (Opd.mk rfl) (by omega)) rfl ?_
          refine St.ev _ (Ev.assign (Opd.mk rfl)) rfl ?_
          refine St.nil ?_
          refine St.in_normal ?_
          refine St.then_normal ?_
          have hy2 : m + 1 < l.length - 1 - i ∧ ∀ z ∈ l.drop (l.length - (m + 1)), z < l.getD i 0 := by
            rw [← hi] at h56
            refine ⟨?_, ?_⟩
            · rcases Nat.lt_or_ge (m + 1) (l.length - 1 - i) with h9 | h9
              · exact h9
              · rw [show l.length - 1 - m = i + 1 by omega] at h56; omega
            · rw [show l.length - (m + 1) = l.length - 1 - m by omega]; exact below_step (by omega) (by rw [show l.length - 1 - m + 1 = l.length - m by omega]; exact hbel) (by omega)
          refine St.againS (m + 1) hy2 (by first | omega | (dsimp only; omega)) (by repeat (first | exact Sub.nil | refine Sub.cons (by first | rfl | exact congrArg (fun z => some (iv z)) (by first | omega | (dsimp only; omega)) | exact congrArg (fun z => some (Value.bool z)) (by first | assumption | exact Eq.symm (by assumption))) ?_)) (fun _ hw => hw.sub)
        · skip
          try simp only [Bool.and_true, Bool.true_and, decide_eq_true_eq, decide_eq_false_iff_not, Bool.and_eq_true, Bool.or_eq_true, Bool.and_eq_false_iff, Bool.or_eq_false_iff, Bool.not_eq_true', Bool.not_eq_false', beq_iff_eq, beq_eq_false_iff_ne, Int.not_lt, Int.not_le] at h56
          rw [← hi] at h56
          obtain ⟨k, hk⟩ : ∃ k, k = l.length - 1 - m := ⟨_, rfl⟩
          rw [← hk] at h56
          have hnx := next_of (l := l) (i := i) (k := k) (by omega) (by omega) hd1 (by omega) (by rw [show k + 1 = l.length - m by omega]; exact hbel)
          have esw := swapI_len l i k
          refine St.rowShape v (by omega) (fun bs cs hsh => ?_)
          refine St.exit ?_
          refine St.then_exit ?_
          refine St.then_exit ?_
          refine St.in_hit ?_
          refine St.then_normal ?_
          refine St.join (ι := Unit) (fun u T => T) (fun u => [row v 3 1 l.length (rows intR (swapI l i k))]) (fun u => True) (Keep.cons 2 rfl (Keep.cons 3 rfl (Keep.cons 4 rfl (Keep.cons 6 rfl Keep.nil)))) ?_ ?_
          · skip
            refine St.any mixed (Mm.drawn _ _) ?_
            refine St.defer 0 (by repeat (first | refine NP.then ?_ | refine NP.inBlock ?_ | exact NP.body)) (by kernel_rfl) rfl (Es.move (Opd.mk rfl)) (by kernel_rfl) rfl ?_
            refine St.defer 1 (by repeat (first | refine NP.then ?_ | refine NP.inBlock ?_ | exact NP.body)) (by kernel_rfl) rfl (Es.move (Opd.mk rfl)) (by kernel_rfl) rfl ?_
            refine St.defer 2 (by repeat (first | refine NP.then ?_ | refine NP.inBlock ?_ | exact NP.body)) (by kernel_rfl) rfl (Es.move (Opd.mk rfl)) (by kernel_rfl) rfl ?_
            refine St.defer 3 (by repeat (first | refine NP.then ?_ | refine NP.inBlock ?_ | exact NP.body)) (by kernel_rfl) rfl (Es.move (Opd.mk rfl)) (by kernel_rfl) rfl ?_
            refine St.defer 4 (by repeat (first | refine NP.then ?_ | refine NP.inBlock ?_ | exact NP.body)) (by kernel_rfl) rfl (Es.move (Opd.mk rfl)) (by kernel_rfl) rfl ?_
            refine St.defer 5 (by repeat (first | refine NP.then ?_ | refine NP.inBlock ?_ | exact NP.body)) (by kernel_rfl) rfl (Es.move (Opd.mk rfl)) (by kernel_rfl) rfl ?_
            refine St.defer 6 (by repeat (first | refine NP.then ?_ | refine NP.inBlock ?_ | exact NP.body)) (by kernel_rfl) rfl (Es.idx (k := k) hsh (Opd.mk rfl) (Opd.mk rfl) Try.underlying24 sz3 (by omega) (by omega)) (by kernel_rfl) rfl ?_
            refine St.defer 8 (by repeat (first | refine NP.then ?_ | refine NP.inBlock ?_ | exact NP.body)) (by kernel_rfl) rfl (Es.move (Opd.mk rfl)) (by kernel_rfl) rfl ?_
            refine St.defer 9 (by repeat (first | refine NP.then ?_ | refine NP.inBlock ?_ | exact NP.body)) (by kernel_rfl) rfl (Es.move (Opd.mk rfl)) (by kernel_rfl) rfl ?_
            refine St.defer 10 (by repeat (first | refine NP.then ?_ | refine NP.inBlock ?_ | exact NP.body)) (by kernel_rfl) rfl (Es.idx (k := i) hsh (Opd.mk rfl) (Opd.mk rfl) Try.underlying24 sz3 (by omega) (by omega)) (by kernel_rfl) rfl ?_
            refine St.any2 (i := 7) (j := 11) (by kernel_rfl) rfl rfl ?_ ?_
            · skip
              refine St.ev _ (Ev.ldrow (Opd.mk rfl) Try.underlying3 trivial (by omega) (rowI (by omega))) rfl ?_
              refine St.nil ?_
              refine St.then_normal ?_
              refine St.any1 (i := 11) (by kernel_rfl) rfl ?_
              refine St.ev _ (Ev.ldrow (Opd.mk rfl) Try.underlying3 trivial (by omega) (rowI (by omega))) rfl ?_
              refine St.nil ?_
              refine St.then_normal ?_
              refine St.defer 12 (by repeat (first | refine NP.then ?_ | refine NP.inBlock ?_ | exact NP.body)) (by kernel_rfl) rfl (Es.idx (k := i) hsh (Opd.mk rfl) (Opd.mk rfl) Try.underlying24 sz3 (by omega) (by omega)) (by kernel_rfl) rfl ?_
              refine St.any1 (i := 13) (by kernel_rfl) rfl ?_
              refine St.storerow (Opd.mk rfl) (Opd.mk rfl) sz3 rfl (by omega) (by decide) ?_
              refine St.nil ?_
              refine St.then_normal ?_
              refine St.defer 14 (by repeat (first | refine NP.then ?_ | refine NP.inBlock ?_ | exact NP.body)) (by kernel_rfl) rfl (Es.idx (k := k) hsh (Opd.mk rfl) (Opd.mk rfl) Try.underlying24 sz3 (by omega) (by omega)) (by kernel_rfl) rfl ?_
              refine St.any1 (i := 15) (by kernel_rfl) rfl ?_
              refine St.storerow (Opd.mk rfl) (Opd.mk rfl) sz3 rfl (by omega) (by decide) ?_
              refine St.nil ?_
              refine St.then_normal ?_
              refine St.any_done (by kernel_rfl) ?_
              refine St.then_normal ?_
              refine St.rowEq v (show _ = rows intR (swapI l i k) by rw [rowI_set, rowI_set]; rfl) ?_
              refine St.met () trivial (by repeat (first | exact Sub.nil | refine Sub.cons (by first | rfl | exact congrArg (fun z => some (iv z)) (by first | omega | (dsimp only; omega)) | exact congrArg (fun z => some (Value.bool z)) (by first | assumption | exact Eq.symm (by assumption))) ?_)) (fun _ hw => hw.sub)
            · skip
              refine St.ev _ (Ev.ldrow (Opd.mk rfl) Try.underlying3 trivial (by omega) (rowI (by omega))) rfl ?_
              refine St.nil ?_
              refine St.then_normal ?_
              refine St.any1 (i := 7) (by kernel_rfl) rfl ?_
              refine St.ev _ (Ev.ldrow (Opd.mk rfl) Try.underlying3 trivial (by omega) (rowI (by omega))) rfl ?_
              refine St.nil ?_
              refine St.then_normal ?_
              refine St.defer 12 (by repeat (first | refine NP.then ?_ | refine NP.inBlock ?_ | exact NP.body)) (by kernel_rfl) rfl (Es.idx (k := i) hsh (Opd.mk rfl) (Opd.mk rfl) Try.underlying24 sz3 (by omega) (by omega)) (by kernel_rfl) rfl ?_
              refine St.any1 (i := 13) (by kernel_rfl) rfl ?_
              refine St.storerow (Opd.mk rfl) (Opd.mk rfl) sz3 rfl (by omega) (by decide) ?_
              refine St.nil ?_
              refine St.then_normal ?_
              refine St.defer 14 (by repeat (first | refine NP.then ?_ | refine NP.inBlock ?_ | exact NP.body)) (by kernel_rfl) rfl (Es.idx (k := k) hsh (Opd.mk rfl) (Opd.mk rfl) Try.underlying24 sz3 (by omega) (by omega)) (by kernel_rfl) rfl ?_
              refine St.any1 (i := 15) (by kernel_rfl) rfl ?_
              refine St.storerow (Opd.mk rfl) (Opd.mk rfl) sz3 rfl (by omega) (by decide) ?_
              refine St.nil ?_
              refine St.then_normal ?_
              refine St.any_done (by kernel_rfl) ?_
              refine St.then_normal ?_
              refine St.rowEq v (show _ = rows intR (swapI l i k) by rw [rowI_set, rowI_set]; rfl) ?_
              refine St.met () trivial (by repeat (first | exact Sub.nil | refine Sub.cons (by first | rfl | exact congrArg (fun z => some (iv z)) (by first | omega | (dsimp only; omega)) | exact congrArg (fun z => some (Value.bool z)) (by first | assumption | exact Eq.symm (by assumption))) ?_)) (fun _ hw => hw.sub)
          · skip
            intro u hphi
            refine St.seq ?_
            refine St.seq ?_
            refine St.rg ?_
            refine St.ev _ (Ev.move (Opd.mk rfl)) rfl ?_
            refine St.ev _ (Ev.add (Opd.mk rfl) (Opd.mk rfl) (by omega)) rfl ?_
            refine St.ev _ (Ev.move (Opd.mk rfl)) rfl ?_
            refine St.ev _ (Ev.lenrow (Opd.mk rfl) Try.underlying24) rfl ?_
            refine St.ev _ (Ev.sub (Opd.mk rfl) (Opd.mk rfl) (by omega)) rfl ?_
            refine St.ev _ (Ev.assign (Opd.mk rfl)) rfl ?_
            refine St.ev _ (Ev.assign (Opd.mk rfl)) rfl ?_
            refine St.nil ?_
            refine St.then_normal ?_
            refine St.block ?_
            refine St.rowEq v (show _ = rows intR (revF (swapI l i k) (i + 1) 0) by rw [revF_zero]) ?_
            refine St.loopH (ι := Nat) (fun t T => (8, iv ((i : Int) + 1 + (t : Nat))) :: (9, iv ((l.length : Int) - 1 - (t : Nat))) :: T) (fun t => [row v 3 1 l.length (rows intR (revF (swapI l i k) (i + 1) t))]) (fun t => t ≤ l.length) (fun t => l.length - t) 0 (Keep.cons 2 rfl (Keep.cons 3 rfl (Keep.cons 4 rfl Keep.nil))) (Nat.zero_le _) (by repeat (first | exact Sub.nil | refine Sub.cons (by first | rfl | exact congrArg (fun z => some (iv z)) (by first | omega | (dsimp only; omega)) | exact congrArg (fun z => some (Value.bool z)) (by first | assumption | exact Eq.symm (by assumption))) ?_)) (fun _ hw => hw.sub) ?_
            intro t hphi
            refine St.seq ?_
            refine St.seq ?_
            refine St.rg ?_
            refine St.ev _ (Ev.move (Opd.mk rfl)) rfl ?_
            refine St.ev _ (Ev.move (Opd.mk rfl)) rfl ?_
            refine St.ev _ (Ev.lss (Opd.mk rfl) (Opd.mk rfl)) rfl ?_
            refine St.nil ?_
            refine St.then_normal ?_
            refine St.cond _ rfl (fun h80 => ?_) (fun h80 => ?_)
            · skip
              try simp only [Bool.and_true, Bool.true_and, decide_eq_true_eq, decide_eq_false_iff_not, Bool.and_eq_true, Bool.or_eq_true, Bool.and_eq_false_iff, Bool.or_eq_false_iff, Bool.not_eq_true', Bool.not_eq_false', beq_iff_eq, beq_eq_false_iff_ne, Int.not_lt, Int.not_le] at h80
              have erv := revF_len (swapI l i k) (i + 1) t
              refine St.skip ?_
              refine St.then_normal ?_
              refine St.seq ?_
              refine St.block ?_
              refine St.any mixed (Mm.drawn _ _) ?_
              refine St.defer 0 (by repeat (first | refine NP.then ?_ | refine NP.inBlock ?_ | exact NP.body)) (by kernel_rfl) rfl (Es.move (Opd.mk rfl)) (by kernel_rfl) rfl ?_
              refine St.defer 1 (by repeat (first | refine NP.then ?_ | refine NP.inBlock ?_ | exact NP.body)) (by kernel_rfl) rfl (Es.move (Opd.mk rfl)) (by kernel_rfl) rfl ?_
              refine St.defer 2 (by repeat (first | refine NP.then ?_ | refine NP.inBlock ?_ | exact NP.body)) (by kernel_rfl) rfl (Es.move (Opd.mk rfl)) (by kernel_rfl) rfl ?_
              refine St.defer 3 (by repeat (first | refine NP.then ?_ | refine NP.inBlock ?_ | exact NP.body)) (by kernel_rfl) rfl (Es.move (Opd.mk rfl)) (by kernel_rfl) rfl ?_
              refine St.defer 4 (by repeat (first | refine NP.then ?_ | refine NP.inBlock ?_ | exact NP.body)) (by kernel_rfl) rfl (Es.move (Opd.mk rfl)) (by kernel_rfl) rfl ?_
              refine St.defer 5 (by repeat (first | refine NP.then ?_ | refine NP.inBlock ?_ | exact NP.body)) (by kernel_rfl) rfl (Es.move (Opd.mk rfl)) (by kernel_rfl) rfl ?_
              refine St.defer 6 (by repeat (first | refine NP.then ?_ | refine NP.inBlock ?_ | exact NP.body)) (by kernel_rfl) rfl (Es.idx (k := (l.length - 1 - t)) hsh (Opd.mk rfl) (Opd.mk rfl) Try.underlying24 sz3 (by omega) (by omega)) (by kernel_rfl) rfl ?_
              refine St.defer 8 (by repeat (first | refine NP.then ?_ | refine NP.inBlock ?_ | exact NP.body)) (by kernel_rfl) rfl (Es.move (Opd.mk rfl)) (by kernel_rfl) rfl ?_
              refine St.defer 9 (by repeat (first | refine NP.then ?_ | refine NP.inBlock ?_ | exact NP.body)) (by kernel_rfl) rfl (Es.move (Opd.mk rfl)) (by kernel_rfl) rfl ?_
              refine St.defer 10 (by repeat (first | refine NP.then ?_ | refine NP.inBlock ?_ | exact NP.body)) (by kernel_rfl) rfl (Es.idx (k := (i + 1 + t)) hsh (Opd.mk rfl) (Opd.mk rfl) Try.underlying24 sz3 (by omega) (by omega)) (by kernel_rfl) rfl ?_
              refine St.any2 (i := 7) (j := 11) (by kernel_rfl) rfl rfl ?_ ?_
              · skip
                refine St.ev _ (Ev.ldrow (Opd.mk rfl) Try.underlying3 trivial (by omega) (rowI (by omega))) rfl ?_
                refine St.nil ?_
                refine St.then_normal ?_
                refine St.any1 (i := 11) (by kernel_rfl) rfl ?_
                refine St.ev _ (Ev.ldrow (Opd.mk rfl) Try.underlying3 trivial (by omega) (rowI (by omega))) rfl ?_
                refine St.nil ?_
                refine St.then_normal ?_
                refine St.defer 12 (by repeat (first | refine NP.then ?_ | refine NP.inBlock ?_ | exact NP.body)) (by kernel_rfl) rfl (Es.idx (k := (i + 1 + t)) hsh (Opd.mk rfl) (Opd.mk rfl) Try.underlying24 sz3 (by omega) (by omega)) (by kernel_rfl) rfl ?_
                refine St.any1 (i := 13) (by kernel_rfl) rfl ?_
                refine St.storerow (Opd.mk rfl) (Opd.mk rfl) sz3 rfl (by omega) (by decide) ?_
                refine St.nil ?_
                refine St.then_normal ?_
                refine St.defer 14 (by repeat (first | refine NP.then ?_ | refine NP.inBlock ?_ | exact NP.body)) (by kernel_rfl) rfl (Es.idx (k := (l.length - 1 - t)) hsh (Opd.mk rfl) (Opd.mk rfl) Try.underlying24 sz3 (by omega) (by omega)) (by kernel_rfl) rfl ?_
                refine St.any1 (i := 15) (by kernel_rfl) rfl ?_
                refine St.storerow (Opd.mk rfl) (Opd.mk rfl) sz3 rfl (by omega) (by decide) ?_
                refine St.nil ?_
                refine St.then_normal ?_
                refine St.any_done (by kernel_rfl) ?_
                refine St.in_normal ?_
                refine St.then_normal ?_
                refine St.rg ?_
                refine St.ev _ (Ev.move (Opd.mk rfl)) rfl ?_
                refine St.ev _ (Ev.add (Opd.mk rfl) (Opd.mk rfl) (by omega)) rfl ?_
                refine St.ev _ (Ev.move (Opd.mk rfl)) rfl ?_
                refine St.ev _ (Ev.sub (Opd.mk rfl) (Opd.mk rfl) (by omega)) rfl ?_
                refine St.ev _ (Ev.assign (Opd.mk rfl)) rfl ?_
                refine St.ev _ (Ev.assign (Opd.mk rfl)) rfl ?_
                refine St.nil ?_
                refine St.then_normal ?_
                refine St.rowEq v (show _ = rows intR (revF (swapI l i k) (i + 1) (t + 1)) by rw [rowI_set, rowI_set, ← revF_step (by omega), esw]) ?_
                refine St.againH (t + 1) (by omega) (by first | omega | (dsimp only; omega)) (by repeat (first | exact Sub.nil | refine Sub.cons (by first | rfl | exact congrArg (fun z => some (iv z)) (by first | omega | (dsimp only; omega)) | exact congrArg (fun z => some (Value.bool z)) (by first | assumption | exact Eq.symm (by assumption))) ?_)) (fun _ hw => hw.sub)
              · skip
                refine St.ev _ (Ev.ldrow (Opd.mk rfl) Try.underlying3 trivial (by omega) (rowI (by omega))) rfl ?_
                refine St.nil ?_
                refine St.then_normal ?_
                refine St.any1 (i := 7) (by kernel_rfl) rfl ?_
                refine St.ev _ (Ev.ldrow (Opd.mk rfl) Try.underlying3 trivial (by omega) (rowI (by omega))) rfl ?_
                refine St.nil ?_
                refine St.then_normal ?_
                refine St.defer 12 (by repeat (first | refine NP.then ?_ | refine NP.inBlock ?_ | exact NP.body)) (by kernel_rfl) rfl (Es.idx (k := (i + 1 + t)) hsh (Opd.mk rfl) (Opd.mk rfl) Try.underlying24 sz3 (by omega) (by omega)) (by kernel_rfl) rfl ?_
                refine St.any1 (i := 13) (by kernel_rfl) rfl ?_
                refine St.storerow (Opd.mk rfl) (Opd.mk rfl) sz3 rfl (by omega) (by decide) ?_
                refine St.nil ?_
                refine St.then_normal ?_
                refine St.defer 14 (by repeat (first | refine NP.then ?_ | refine NP.inBlock ?_ | exact NP.body)) (by kernel_rfl) rfl (Es.idx (k := (l.length - 1 - t)) hsh (Opd.mk rfl) (Opd.mk rfl) Try.underlying24 sz3 (by omega) (by omega)) (by kernel_rfl) rfl ?_
                refine St.any1 (i := 15) (by kernel_rfl) rfl ?_
                refine St.storerow (Opd.mk rfl) (Opd.mk rfl) sz3 rfl (by omega) (by decide) ?_
                refine St.nil ?_
                refine St.then_normal ?_
                refine St.any_done (by kernel_rfl) ?_
                refine St.in_normal ?_
                refine St.then_normal ?_
                refine St.rg ?_
                refine St.ev _ (Ev.move (Opd.mk rfl)) rfl ?_
                refine St.ev _ (Ev.add (Opd.mk rfl) (Opd.mk rfl) (by omega)) rfl ?_
                refine St.ev _ (Ev.move (Opd.mk rfl)) rfl ?_
                refine St.ev _ (Ev.sub (Opd.mk rfl) (Opd.mk rfl) (by omega)) rfl ?_
                refine St.ev _ (Ev.assign (Opd.mk rfl)) rfl ?_
                refine St.ev _ (Ev.assign (Opd.mk rfl)) rfl ?_
                refine St.nil ?_
                refine St.then_normal ?_
                refine St.rowEq v (show _ = rows intR (revF (swapI l i k) (i + 1) (t + 1)) by rw [rowI_set, rowI_set, ← revF_step (by omega), esw]) ?_
                refine St.againH (t + 1) (by omega) (by first | omega | (dsimp only; omega)) (by repeat (first | exact Sub.nil | refine Sub.cons (by first | rfl | exact congrArg (fun z => some (iv z)) (by first | omega | (dsimp only; omega)) | exact congrArg (fun z => some (Value.bool z)) (by first | assumption | exact Eq.symm (by assumption))) ?_)) (fun _ hw => hw.sub)
            · skip
              try simp only [Bool.and_true, Bool.true_and, decide_eq_true_eq, decide_eq_false_iff_not, Bool.and_eq_true, Bool.or_eq_true, Bool.and_eq_false_iff, Bool.or_eq_false_iff, Bool.not_eq_true', Bool.not_eq_false', beq_iff_eq, beq_eq_false_iff_ne, Int.not_lt, Int.not_le] at h80
              refine St.exit ?_
              refine St.then_exit ?_
              refine St.then_exit ?_
              refine St.in_hit ?_
              refine St.then_normal ?_
              refine St.seq ?_
              refine St.rg ?_
              refine St.ev _ (Ev.move (Opd.mk rfl)) rfl ?_
              refine St.ev _ (Ev.assign (Opd.mk rfl)) rfl ?_
              refine St.ev _ (Ev.assign (Opd.mk rfl)) rfl ?_
              refine St.nil ?_
              refine St.then_normal ?_
              refine St.rett ?_
              refine St.rets [_, _] [row v 3 1 l.length (rows intR (revF (swapI l i k) (i + 1) t))] Try.results35 ⟨rfl, ⟨rfl, trivial⟩⟩ ?_ (fun _ hw => hw.sub)
              have e := revF_end (L := swapI l i k) (s := i + 1) (t := t) (by omega) (by omega)
              unfold afterV; rw [hnx, ← e]; exact ⟨v, rfl, by rw [Option.getD_some, revF_len, esw]⟩

theorem OrderAll_spec (v0 v1 : Value) (rules : List Prec) (ks : List Str) (hks : ks.length ≤ 7) : FnH Try.prog 19 #[v0, v1] ([sl precR v0 rules, sl strR v1 ks].map dat) (fun v H' => ∃ vs, vs.length = (good rules ks).length ∧ H' = [dat (sl valR v vs), dat (ptw intR vs (good rules ks))]) := by
  refine FnH.bodyd2 (args := [v0, v1]) 37 Try.func19 rfl Try.ntmps19 rfl (fun c => ?_)
  refine St.seq ?_
  refine St.wf v1 (fun hwf1 hlen1 => ?_)
  have hsm := leaves_small hks
  refine St.rg ?_
  refine St.ev _ (Ev.assign (Opd.mk rfl)) rfl ?_
  refine St.nil ?_
  refine St.then_normal ?_
  refine St.seq ?_
  refine St.rg ?_
  refine St.buildSl (xs := []) (ps := []) rfl (Opds.nil) Try.underlying24 sz3 zv3 rfl rfl (by simp [Value.cells]) rfl rfl (fun b9 => ?_)
  refine St.ev _ (Ev.assign (Opd.mk rfl)) rfl ?_
  refine St.nil ?_
  refine St.then_normal ?_
  refine St.seq ?_
  refine St.seq ?_
  refine St.rg ?_
  refine St.ev _ (Ev.assign (Opd.mk rfl)) rfl ?_
  refine St.nil ?_
  refine St.then_normal ?_
  refine St.block ?_
  refine St.rowEqN (.slice (some ⟨b9, 0, none⟩) 0 0) (show _ = 0 from rfl) (show _ = rows intR ((iota ks.length).take 0) from rfl) ?_
  refine St.loopH2 (ι := Nat) (κ := Value) (fun k v T => (6, iv k) :: (5, v) :: T) (fun k v => [row v 3 1 k (rows intR ((iota ks.length).take k)), dat (sl precR v0 rules), dat (sl strR v1 ks)]) (fun k v => k ≤ ks.length) (fun k v => ks.length - k) 0 (.slice (some ⟨b9, 0, none⟩) 0 0) (Keep.cons 0 rfl (Keep.cons 1 rfl (Keep.cons 4 rfl Keep.nil))) (Nat.zero_le _) (by repeat (first | exact Sub.nil | refine Sub.cons (by first | rfl | exact congrArg (fun z => some (iv z)) (by first | omega | (dsimp only; omega)) | exact congrArg (fun z => some (Value.bool z)) (by first | assumption | exact Eq.symm (by assumption))) ?_)) (fun _ hw => hw.sub) ?_
  intro k v hphi
  refine St.seq ?_
  refine St.seq ?_
  refine St.rg ?_
  refine St.ev _ (Ev.move (Opd.mk rfl)) rfl ?_
  refine St.ev _ (Ev.move (Opd.mk rfl)) rfl ?_
  refine St.ev _ (Ev.lensl (Opd.mk rfl) Try.underlying23) rfl ?_
  refine St.ev _ (Ev.lss (Opd.mk rfl) (Opd.mk rfl)) rfl ?_
  refine St.nil ?_
  refine St.then_normal ?_
  refine St.cond _ rfl (fun h13 => ?_) (fun h13 => ?_)
  · skip
    try simp only [Bool.and_true, Bool.true_and, decide_eq_true_eq, decide_eq_false_iff_not, Bool.and_eq_true, Bool.or_eq_true, Bool.and_eq_false_iff, Bool.or_eq_false_iff, Bool.not_eq_true', Bool.not_eq_false', beq_iff_eq, beq_eq_false_iff_ne, Int.not_lt, Int.not_le] at h13
    refine St.skip ?_
    refine St.then_normal ?_
    refine St.seq ?_
    refine St.block ?_
    refine St.rg ?_
    refine St.ev _ (Ev.move (Opd.mk rfl)) rfl ?_
    refine St.ev _ (Ev.move (Opd.mk rfl)) rfl ?_
    refine St.buildSl (xs := [(Operand.tmp 17)]) (ps := [(0, (Operand.tmp 17))]) rfl (Opds.cons (Opd.mk rfl) Opds.nil) Try.underlying24 sz3 zv3 rfl rfl (by simp [Value.cells]) rfl rfl (fun b18 => ?_)
    refine St.appendRow (Opd.mk rfl) (Opd.mk rfl) Try.underlying24 sz3 zv3 by3 (by simp [Value.oneCell', Value.cells]) (by omega) (by omega) rfl rfl rfl rfl (fun v19 hv19 => ?_)
    refine St.ev _ (Ev.assign (Opd.mk rfl)) rfl ?_
    refine St.nil ?_
    refine St.in_normal ?_
    refine St.then_normal ?_
    refine St.rg ?_
    refine St.ev _ (Ev.move (Opd.mk rfl)) rfl ?_
    refine St.ev _ (Ev.add (Opd.mk rfl) (Opd.mk rfl) (by omega)) rfl ?_
    refine St.ev _ (Ev.assign (Opd.mk rfl)) rfl ?_
    refine St.nil ?_
    refine St.then_normal ?_
    refine St.rowEqN v19 (show _ = k + 1 by omega) (show _ = rows intR ((iota ks.length).take (k + 1)) by rw [iota_snoc (by omega), rows_snoc]; rfl) ?_
    refine St.againH2 (k + 1) v19 (by omega) (by first | omega | (dsimp only; omega)) (by repeat (first | exact Sub.nil | refine Sub.cons (by first | rfl | exact congrArg (fun z => some (iv z)) (by first | omega | (dsimp only; omega)) | exact congrArg (fun z => some (Value.bool z)) (by first | assumption | exact Eq.symm (by assumption))) ?_)) (fun _ hw => hw.sub)
  · skip
    try simp only [Bool.and_true, Bool.true_and, decide_eq_true_eq, decide_eq_false_iff_not, Bool.and_eq_true, Bool.or_eq_true, Bool.and_eq_false_iff, Bool.or_eq_false_iff, Bool.not_eq_true', Bool.not_eq_false', beq_iff_eq, beq_eq_false_iff_ne, Int.not_lt, Int.not_le] at h13
    have ei : (iota ks.length).take k = (leaves ks.length ks.length []).getD 0 [] := by rw [List.getD_eq_getElem?_getD, leaves_first, List.take_of_length_le (by rw [iota_len]; omega)]; rfl
    have el : k = ((leaves ks.length ks.length []).getD 0 []).length := by rw [List.getD_eq_getElem?_getD, leaves_first, Option.getD_some, iota_len]; omega
    have h0L : 0 < (leaves ks.length ks.length []).length := (List.getElem?_eq_some_iff.1 (leaves_first ks.length)).1
    have hbt : true = decide (0 < (leaves ks.length ks.length []).length) := by simp [h0L]
    refine St.rowEqN v el (congrArg (rows intR) ei) ?_
    refine St.exit ?_
    refine St.then_exit ?_
    refine St.then_exit ?_
    refine St.in_hit ?_
    refine St.then_normal ?_
    refine St.seq ?_
    refine St.rg ?_
    refine St.buildSl (xs := []) (ps := []) rfl (Opds.nil) Try.underlying35 sz24 zv24 rfl rfl (by simp [Value.cells]) rfl rfl (fun b20 => ?_)
    refine St.ev _ (Ev.assign (Opd.mk rfl)) rfl ?_
    refine St.nil ?_
    refine St.then_normal ?_
    refine St.seq ?_
    refine St.rg ?_
    refine St.ev _ (Ev.assign (Opd.mk rfl)) rfl ?_
    refine St.nil ?_
    refine St.then_normal ?_
    refine St.seq ?_
    refine St.block ?_
    refine St.rowEqN (.slice (some ⟨b20, 0, none⟩) 0 0) (show _ = 0 from rfl) (show _ = rows valR (([] : List (OneV × List Int)).map Prod.fst).reverse from rfl) ?_
    refine St.sub [row (.slice (some ⟨b20, 0, none⟩) 0 0) 24 1 0 (rows valR (([] : List (OneV × List Int)).map Prod.fst).reverse), row v 3 1 ((leaves ks.length ks.length []).getD 0 []).length (rows intR ((leaves ks.length ks.length []).getD 0 [])), dat (sl precR v0 rules), dat (sl strR v1 ks)] ?_
    refine St.cast (show _ = (row (.slice (some ⟨b20, 0, none⟩) 0 0) 24 1 ([] : List (OneV × List Int)).length (rows valR (([] : List (OneV × List Int)).map Prod.fst).reverse) :: row v 3 1 ((leaves ks.length ks.length []).getD 0 []).length (rows intR ((leaves ks.length ks.length []).getD 0 [])) :: dat (sl precR v0 rules) :: dat (sl strR v1 ks) :: owned 3 intR ([] : List (OneV × List Int))) from rfl) ?_
    refine St.loopH2 (ι := Nat) (κ := Value × Value × List (OneV × List Int)) (fun j z T => (8, .bool (decide (j < (leaves ks.length ks.length []).length))) :: (5, z.1) :: (7, z.2.1) :: T) (fun j z => (row z.2.1 24 1 z.2.2.length (rows valR (z.2.2.map Prod.fst).reverse) :: row z.1 3 1 ((leaves ks.length ks.length []).getD j []).length (rows intR ((leaves ks.length ks.length []).getD j [])) :: dat (sl precR v0 rules) :: dat (sl strR v1 ks) :: owned 3 intR z.2.2)) (fun j z => j ≤ (leaves ks.length ks.length []).length ∧ (z.2.2.map Prod.snd).reverse = ((leaves ks.length ks.length []).take j).filter (okO rules ks)) (fun j z => (leaves ks.length ks.length []).length - j) 0 (v, (.slice (some ⟨b20, 0, none⟩) 0 0), []) (Keep.cons 0 rfl (Keep.cons 1 rfl (Keep.cons 4 rfl Keep.nil))) ⟨Nat.zero_le _, rfl⟩ (by repeat (first | exact Sub.nil | refine Sub.cons (by first | rfl | exact congrArg (fun z => some (iv z)) (by first | omega | (dsimp only; omega)) | exact congrArg (fun z => some (Value.bool z)) (by first | assumption | exact Eq.symm (by assumption))) ?_)) (fun _ hw => hw.sub) ?_
    rintro j ⟨vl, vo, ps⟩ ⟨hj, hps⟩
    dsimp only at hps ⊢
    have hpl : ps.length ≤ (leaves ks.length ks.length []).length := by
      have h1 : ((ps.map Prod.snd).reverse).length = ps.length := by simp
      rw [← h1, hps]
      exact Nat.le_trans (List.length_filter_le _ _) (by rw [List.length_take]; omega)
    refine St.seq ?_
    refine St.seq ?_
    refine St.rg ?_
    refine St.ev _ (Ev.move (Opd.mk rfl)) rfl ?_
    refine St.nil ?_
    refine St.then_normal ?_
    refine St.cond _ rfl (fun h21 => ?_) (fun h21 => ?_)
    · skip
      try simp only [Bool.and_true, Bool.true_and, decide_eq_true_eq, decide_eq_false_iff_not, Bool.and_eq_true, Bool.or_eq_true, Bool.and_eq_false_iff, Bool.or_eq_false_iff, Bool.not_eq_true', Bool.not_eq_false', beq_iff_eq, beq_eq_false_iff_ne, Int.not_lt, Int.not_le] at h21
      obtain ⟨a, ha⟩ := some_of_lt (show j < (leaves ks.length ks.length []).length by omega)
      have ea : (leaves ks.length ks.length []).getD j [] = a := getD_of_some ha
      rw [ea]
      obtain ⟨hlo, hnd, hal⟩ := leaves_ok _ _ _ (List.mem_of_getElem? ha) (fun i hi => by cases hi) .nil
      have hal : a.length = ks.length := by simpa using hal
      have hnx := leaves_next _ _ _ ha
      have hb1 : (nextR a).isSome = decide (j + 1 < (leaves ks.length ks.length []).length) := by rw [hnx, isSome_get]
      have hg1 : (nextR a).getD [] = (leaves ks.length ks.length []).getD (j + 1) [] := by rw [hnx, getD_of_get]
      refine St.rowOne vl (fun hol _ => ?_)
      refine St.skip ?_
      refine St.then_normal ?_
      refine St.block ?_
      refine St.seq ?_
      refine St.seq ?_
      refine St.rg ?_
      refine St.ev _ (Ev.move (Opd.mk rfl)) rfl ?_
      refine St.ev _ (Ev.move (Opd.mk rfl)) rfl ?_
      refine St.ev _ (Ev.move (Opd.mk rfl)) rfl ?_
      refine St.ev _ (Ev.callL (OrderBroken_spec v0 v1 vl rules ks a hlo (by omega)) cb12 (Opds.cons (Opd.mk rfl) (Opds.cons (Opd.mk rfl) (Opds.cons (Opd.mk rfl) Opds.nil))) (Lent.dat (Lent.dat (Lent.row Lent.nil rfl rfl rfl (fun x hx => by have := hlo x hx; exact ⟨by omega, by omega⟩))))) rfl ?_
      refine St.ev _ (Ev.lss (Opd.mk rfl) (Opd.mk rfl)) rfl ?_
      refine St.nil ?_
      refine St.then_normal ?_
      refine St.cond _ rfl (fun h26 => ?_) (fun h26 => ?_)
      · skip
        try simp only [Bool.and_true, Bool.true_and, decide_eq_true_eq, decide_eq_false_iff_not, Bool.and_eq_true, Bool.or_eq_true, Bool.and_eq_false_iff, Bool.or_eq_false_iff, Bool.not_eq_true', Bool.not_eq_false', beq_iff_eq, beq_eq_false_iff_ne, Int.not_lt, Int.not_le] at h26
        refine St.rg ?_
        refine St.ev _ (Ev.move (Opd.mk rfl)) rfl ?_
        refine St.ev _ (Ev.move (Opd.mk rfl)) rfl ?_
        refine St.buildSl (xs := [(Operand.tmp 28)]) (ps := [(0, (Operand.tmp 28))]) rfl (Opds.cons (Opd.mk rfl) Opds.nil) Try.underlying35 sz24 zv24 rfl rfl (by simp [J.cells_one hol]) rfl rfl (fun b29 => ?_)
        refine St.appendRow (Opd.mk rfl) (Opd.mk rfl) Try.underlying35 sz24 zv24 by24 (by simp [J.cells_one hol, hol]) (by omega) (by omega) rfl rfl rfl rfl (fun v30 hv30 => ?_)
        refine St.rowEq v30 (show _ = rows valR ((((⟨vl, hol⟩ : OneV), a) :: ps).map Prod.fst).reverse by rw [rows_valR, rows_valR]; simp [J.cells_one hol]) ?_
        refine St.ev _ (Ev.assign (Opd.mk rfl)) rfl ?_
        refine St.nil ?_
        refine St.then_normal ?_
        refine St.rg ?_
        refine St.ev _ (Ev.move (Opd.mk rfl)) rfl ?_
        refine St.callL (OrderAfter_spec vl a (by omega)) cb35 (Opds.cons (Opd.mk rfl) Opds.nil) (Lent.row Lent.nil rfl rfl rfl (fun x hx => by have := hlo x hx; exact ⟨by omega, by omega⟩)) (fun v H' h => afterV_solid h) rfl ?_
        rintro v33 _ ⟨vn, rfl, rfl⟩
        refine St.app1 ?_
        refine St.ev _ (Ev.move (Opd.mk rfl)) rfl ?_
        refine St.ev _ (Ev.extract (Opd.mk rfl) rfl) rfl ?_
        refine St.ev _ (Ev.extract (Opd.mk rfl) rfl) rfl ?_
        refine St.ev _ (Ev.assign (Opd.mk rfl)) rfl ?_
        refine St.ev _ (Ev.assign (Opd.mk rfl)) rfl ?_
        refine St.nil ?_
        refine St.in_normal ?_
        refine St.then_normal ?_
        refine St.rowEqN vn (congrArg List.length hg1) (congrArg (rows intR) hg1) ?_
        refine St.sub (row v30 24 1 (ps.length + 1) (rows valR ((((⟨vl, hol⟩ : OneV), a) :: ps).map Prod.fst).reverse) :: row vn 3 1 ((leaves ks.length ks.length []).getD (j + 1) []).length (rows intR ((leaves ks.length ks.length []).getD (j + 1) [])) :: dat (sl precR v0 rules) :: dat (sl strR v1 ks) :: row vl 3 1 a.length (rows intR a) :: owned 3 intR ps) ?_
        refine St.cast (show _ = (row v30 24 1 (((⟨vl, hol⟩ : OneV), a) :: ps).length (rows valR ((((⟨vl, hol⟩ : OneV), a) :: ps).map Prod.fst).reverse) :: row vn 3 1 ((leaves ks.length ks.length []).getD (j + 1) []).length (rows intR ((leaves ks.length ks.length []).getD (j + 1) [])) :: dat (sl precR v0 rules) :: dat (sl strR v1 ks) :: owned 3 intR (((⟨vl, hol⟩ : OneV), a) :: ps)) from rfl) ?_
        refine St.againH2 (j + 1) (vn, v30, (((⟨vl, hol⟩ : OneV), a) :: ps)) ⟨by omega, by rw [List.map_cons, List.reverse_cons, hps, take_of_some ha, List.filter_append, List.filter_cons, if_pos (show okO rules ks a = true by unfold okO; simpa using h26)]; rfl⟩ (by (try dsimp only); omega) (by (try dsimp only); repeat (first | exact Sub.nil | refine Sub.cons (by first | rfl | exact congrArg (fun z => some (iv z)) (by first | omega | (dsimp only; omega)) | exact congrArg (fun z => some (Value.bool z)) (by first | assumption | exact Eq.symm (by assumption))) ?_)) (fun _ hw => hw.sub)
      · skip
        try simp only [Bool.and_true, Bool.true_and, decide_eq_true_eq, decide_eq_false_iff_not, Bool.and_eq_true, Bool.or_eq_true, Bool.and_eq_false_iff, Bool.or_eq_false_iff, Bool.not_eq_true', Bool.not_eq_false', beq_iff_eq, beq_eq_false_iff_ne, Int.not_lt, Int.not_le] at h26
        refine St.skip ?_
        refine St.then_normal ?_
        refine St.rg ?_
        refine St.ev _ (Ev.move (Opd.mk rfl)) rfl ?_
        refine St.callL (OrderAfter_spec vl a (by omega)) cb35 (Opds.cons (Opd.mk rfl) Opds.nil) (Lent.row Lent.nil rfl rfl rfl (fun x hx => by have := hlo x hx; exact ⟨by omega, by omega⟩)) (fun v H' h => afterV_solid h) rfl ?_
        rintro v33 _ ⟨vn, rfl, rfl⟩
        refine St.app1 ?_
        refine St.ev _ (Ev.move (Opd.mk rfl)) rfl ?_
        refine St.ev _ (Ev.extract (Opd.mk rfl) rfl) rfl ?_
        refine St.ev _ (Ev.extract (Opd.mk rfl) rfl) rfl ?_
        refine St.ev _ (Ev.assign (Opd.mk rfl)) rfl ?_
        refine St.ev _ (Ev.assign (Opd.mk rfl)) rfl ?_
        refine St.nil ?_
        refine St.in_normal ?_
        refine St.then_normal ?_
        refine St.rowEqN vn (congrArg List.length hg1) (congrArg (rows intR) hg1) ?_
        refine St.againH2 (j + 1) (vn, vo, ps) ⟨by omega, by rw [hps, take_of_some ha, List.filter_append, List.filter_cons, if_neg (show ¬ okO rules ks a = true by unfold okO; simpa using h26), List.filter_nil, List.append_nil]⟩ (by (try dsimp only); omega) (by (try dsimp only); repeat (first | exact Sub.nil | refine Sub.cons (by first | rfl | exact congrArg (fun z => some (iv z)) (by first | omega | (dsimp only; omega)) | exact congrArg (fun z => some (Value.bool z)) (by first | assumption | exact Eq.symm (by assumption))) ?_)) (fun _ hw => hw.sub)
    · skip
      try simp only [Bool.and_true, Bool.true_and, decide_eq_true_eq, decide_eq_false_iff_not, Bool.and_eq_true, Bool.or_eq_true, Bool.and_eq_false_iff, Bool.or_eq_false_iff, Bool.not_eq_true', Bool.not_eq_false', beq_iff_eq, beq_eq_false_iff_ne, Int.not_lt, Int.not_le] at h21
      refine St.exit ?_
      refine St.then_exit ?_
      refine St.then_exit ?_
      refine St.in_hit ?_
      refine St.then_normal ?_
      refine St.seq ?_
      refine St.rg ?_
      refine St.ev _ (Ev.move (Opd.mk rfl)) rfl ?_
      refine St.ev _ (Ev.assign (Opd.mk rfl)) rfl ?_
      refine St.nil ?_
      refine St.then_normal ?_
      refine St.rett ?_
      have hgd : (ps.map Prod.snd).reverse = good rules ks := by rw [hps, List.take_of_length_le (by simpa using h21)]; rfl
      refine St.publish vo valR (ps.map Prod.fst).reverse rfl (by simp) (fun _ _ => trivial) ?_
      refine St.publishRev (e := 3) (Rr := intR) ps (fun p hp x hx => by have := (good_ok (rules := rules) (ks := ks) (x := p.2) (by rw [← hgd]; exact List.mem_reverse.2 (List.mem_map_of_mem hp))).1 x hx; exact ⟨by omega, by omega⟩) ?_
      refine St.rets [_] [dat (sl valR vo (ps.map Prod.fst).reverse), dat (ptw intR (ps.map Prod.fst).reverse (ps.map Prod.snd).reverse)] Try.results19 ⟨rfl, trivial⟩ ?_ (fun _ hw => hw.sub)
      rw [hgd]; exact ⟨_, by rw [← hgd]; simp, rfl⟩

end Go.Proofs.Ytblnbjlcpleaaaa
