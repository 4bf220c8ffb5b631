/-
  The law of a part with a further element.
  Conditions: the part takes no more bytes than a process has.
-/
import Derived.Test.YtblmnncmkibhnaaW6
set_option linter.unusedSimpArgs false
set_option linter.unusedVariables false
namespace Go.Proofs.Ytblmnncmkibhnaa
open Go Go.J

theorem Find_ok (v0 v1 v2 : Value) (p part : List Int) (hz : (sFault p).1 = 0) (hsz : part.length ≤ 4611686018427387904) :
    FnH Try.prog 17 #[v0, v1, v2] ([sl intR v0 p, sl intR v1 (ints (sufOf p)), sl intR v2 part].map dat) (fun u H' => ∃ u0 : Value, u = .tuple #[u0, fv (0, 0)] ∧ u0.oneCell' = true ∧ H' = [row u0 3 1 (placesOf p part).length (rows intR (ints (placesOf p part)))]) := by
  have := Find_spec v0 v1 v2 p (ints (sufOf p)) part hsz
  rw [bothF_3 hz rfl, fnd_t (by rw [bothF_3 hz rfl])] at this
  exact this
def ends (p part : List Int) (x : Int) (i : Nat) : Bool := decide (i + part.length < p.length ∧ p.getD (i + part.length) 0 = x)
def endsTo (p part : List Int) (x : Int) (j : Nat) : List Nat := ((placesOf p part).take j).filter (ends p part x)
theorem endsTo_t {p part : List Int} {x : Int} {i j : Nat} (hi : (placesOf p part)[j]? = some i) (h : i + part.length < p.length ∧ p.getD (i + part.length) 0 = x) : endsTo p part x (j + 1) = endsTo p part x j ++ [i] := by
  unfold endsTo
  rw [take_of_some hi, List.filter_append]
  have : ends p part x i = true := decide_eq_true h
  simp [this]
theorem endsTo_f {p part : List Int} {x : Int} {i j : Nat} (hi : (placesOf p part)[j]? = some i) (h : ¬ (i + part.length < p.length ∧ p.getD (i + part.length) 0 = x)) : endsTo p part x (j + 1) = endsTo p part x j := by
  unfold endsTo
  rw [take_of_some hi, List.filter_append]
  have : ends p part x i = false := decide_eq_false h
  simp [this]
theorem placesOf_len (p part : List Int) : (placesOf p part).length ≤ p.length := placesTo_len p part p.length
theorem endsTo_len (p part : List Int) (x : Int) (j : Nat) : (endsTo p part x j).length ≤ p.length := by
  unfold endsTo
  have h1 := List.length_filter_le (ends p part x) ((placesOf p part).take j)
  have h2 := placesOf_len p part
  rw [List.length_take] at h1
  omega
theorem endsTo_end {p part : List Int} {x : Int} {j : Nat} (h : (placesOf p part).length ≤ j) : endsTo p part x j = placesOf p (part ++ [x]) := by
  unfold endsTo
  rw [List.take_of_length_le h, placesOf_snoc]
  rfl

theorem law5_spec (v0 v1 : Value) (p part : List Int) (x : Int) (hx : i64ok x) (hsz : part.length * 8 ≤ 140737488351232) : FnV Try.prog 5 #[v0, v1, iv x] [sl intR v0 p, sl intR v1 part] (.bool true) := by
  refine FnV.body2 (args := [v0, v1, iv x]) 111 Try.func5 rfl Try.ntmps5 rfl (fun c => ?_)
  refine St.seq ?_
  refine St.wf v1 (fun hwf1 hlen1 => ?_)
  refine St.rg ?_
  refine St.ev _ (Ev.assign (Opd.mk rfl)) rfl ?_
  refine St.nil ?_
  refine St.then_normal ?_
  refine St.seq ?_
  refine St.seq ?_
  refine St.rg ?_
  refine St.ev _ (Ev.call (suffixReady_spec) cb11 (Opds.nil)) rfl ?_
  refine St.ev _ (Ev.not (Opd.mk rfl)) rfl ?_
  refine St.nil ?_
  refine St.then_normal ?_
  refine St.condf _ rfl rfl ?_
  refine St.skip ?_
  refine St.then_normal ?_
  refine St.seq ?_
  refine St.rg ?_
  refine St.ev _ (Ev.move (Opd.mk rfl)) rfl ?_
  refine St.calld (Build_spec v0 p) cb12 (Opds.cons (Opd.mk rfl) Opds.nil) rfl ?_
  rintro v22 _ ⟨u0, rfl, h1, rfl⟩
  refine St.app1 ?_
  refine St.publish u0 intR (ints (bld p)) rfl (ints_length _).symm bld_wf ?_
  refine St.ev _ (Ev.move (Opd.mk rfl)) rfl ?_
  refine St.ev _ (Ev.extract (Opd.mk rfl) rfl) rfl ?_
  refine St.ev _ (Ev.extract (Opd.mk rfl) rfl) rfl ?_
  refine St.alloc zc25 rfl (fun b8 => ?_)
  refine St.ev _ (Ev.assign (Opd.mk rfl)) rfl ?_
  refine St.storeA (Opd.mk rfl) (Opd.mk rfl) sz25 (by first | simp only [List.length_cons, List.length_nil] | rfl) rfl ?_
  refine St.nil ?_
  refine St.then_normal ?_
  refine St.seq ?_
  refine St.seq ?_
  refine St.rg ?_
  refine St.ev _ (Ev.fldb0 (Opd.mk rfl) fo25_0) rfl ?_
  refine St.ev _ (Ev.ldb (Opd.mk rfl) Try.underlying3 trivial (by rfl)) rfl ?_
  refine St.ev _ (Ev.neq (Opd.mk rfl) (Opd.mk rfl)) rfl ?_
  refine St.nil ?_
  refine St.then_normal ?_
  refine St.cond _ rfl (fun h27 => ?_) (fun h27 => ?_)
  · skip
    try simp only [Bool.and_true, Bool.true_and, decide_eq_true_eq, decide_eq_false_iff_not, Bool.and_eq_true, Bool.or_eq_true, Bool.and_eq_false_iff, Bool.or_eq_false_iff, Bool.not_eq_true', Bool.not_eq_false', beq_iff_eq, beq_eq_false_iff_ne, Int.not_lt, Int.not_le] at h27
    refine St.seq ?_
    refine St.rg ?_
    refine St.ev _ (Ev.assign (Opd.mk rfl)) rfl ?_
    refine St.nil ?_
    refine St.then_normal ?_
    refine St.rett ?_
    refine St.then_ret ?_
    refine St.rets [_] [] Try.results5 ⟨rfl, trivial⟩ ?_ (fun _ hw => hw.sub)
    exact be rfl
  · skip
    try simp only [Bool.and_true, Bool.true_and, decide_eq_true_eq, decide_eq_false_iff_not, Bool.and_eq_true, Bool.or_eq_true, Bool.and_eq_false_iff, Bool.or_eq_false_iff, Bool.not_eq_true', Bool.not_eq_false', beq_iff_eq, beq_eq_false_iff_ne, Int.not_lt, Int.not_le] at h27
    have hz : (sFault p).1 = 0 := by omega
    have hok := sFault_ok hz
    rw [bld_t hz, hok.2]
    refine St.skip ?_
    refine St.then_normal ?_
    refine St.seq ?_
    refine St.rg ?_
    refine St.buildSl (xs := []) (ps := []) rfl (Opds.nil) Try.underlying22 sz3 zv3 rfl rfl (by simp [Value.cells]) rfl rfl (fun b28 => ?_)
    refine St.ev _ (Ev.assign (Opd.mk rfl)) rfl ?_
    refine St.nil ?_
    refine St.then_normal ?_
    refine St.seq ?_
    refine St.seq ?_
    refine St.rg ?_
    refine St.ev _ (Ev.assign (Opd.mk rfl)) rfl ?_
    refine St.nil ?_
    refine St.then_normal ?_
    refine St.block ?_
    refine St.rowEqN (.slice (some ⟨b28, 0, none⟩) 0 0) (show _ = 0 from rfl) (show _ = rows intR (part.take 0) from rfl) ?_
    refine St.loopH2 (ι := Nat) (κ := Value) (fun k v T => (10, iv k) :: (9, v) :: T) (fun k v => [row v 3 1 k (rows intR (part.take k)), dat (sl intR v0 p), dat (sl intR v1 part), dat (sl intR u0 (ints (sufOf p)))]) (fun k v => k ≤ part.length ∧ v.oneCell' = true) (fun k v => part.length - k) 0 (.slice (some ⟨b28, 0, none⟩) 0 0) (Keep.cons 0 rfl (Keep.cons 1 rfl (Keep.cons 2 rfl (Keep.cons 6 rfl (Keep.cons 7 rfl Keep.nil))))) ⟨Nat.zero_le _, rfl⟩ (by repeat (first | exact Sub.nil | refine Sub.cons (by first | rfl | exact congrArg (fun z => some (iv z)) (by first | omega | (dsimp only; omega)) | exact congrArg (fun z => some (Value.bool z)) (by first | assumption | exact Eq.symm (by assumption))) ?_)) (fun _ hw => hw.sub) ?_
    intro k v hphi
    obtain ⟨hk, hv1⟩ := hphi
    refine St.seq ?_
    refine St.seq ?_
    refine St.rg ?_
    refine St.ev _ (Ev.move (Opd.mk rfl)) rfl ?_
    refine St.ev _ (Ev.move (Opd.mk rfl)) rfl ?_
    refine St.ev _ (Ev.lensl (Opd.mk rfl) Try.underlying22) rfl ?_
    refine St.ev _ (Ev.lss (Opd.mk rfl) (Opd.mk rfl)) rfl ?_
    refine St.nil ?_
    refine St.then_normal ?_
    refine St.cond _ rfl (fun h32 => ?_) (fun h32 => ?_)
    · skip
      try simp only [Bool.and_true, Bool.true_and, decide_eq_true_eq, decide_eq_false_iff_not, Bool.and_eq_true, Bool.or_eq_true, Bool.and_eq_false_iff, Bool.or_eq_false_iff, Bool.not_eq_true', Bool.not_eq_false', beq_iff_eq, beq_eq_false_iff_ne, Int.not_lt, Int.not_le] at h32
      obtain ⟨q, hq⟩ := some_of_lt (show k < part.length by omega)
      refine St.skip ?_
      refine St.then_normal ?_
      refine St.seq ?_
      refine St.block ?_
      refine St.rg ?_
      refine St.ev _ (Ev.move (Opd.mk rfl)) rfl ?_
      refine St.ev _ (Ev.move (Opd.mk rfl)) rfl ?_
      refine St.ev _ (Ev.move (Opd.mk rfl)) rfl ?_
      refine St.ev _ (Ev.idxaddr  (Opd.mk rfl) (Opd.mk rfl) Try.underlying22 sz3 rfl (by omega)) rfl ?_
      refine St.ev _ (Ev.ld1 (Opd.mk rfl) hq Try.underlying3 trivial rfl) rfl ?_
      refine St.buildSl (xs := [(Operand.tmp 39)]) (ps := [(0, (Operand.tmp 39))]) rfl (Opds.cons (Opd.mk rfl) Opds.nil) Try.underlying22 sz3 zv3 rfl rfl (by simp [Value.cells]) rfl rfl (fun b40 => ?_)
      refine St.appendRow (Opd.mk rfl) (Opd.mk rfl) Try.underlying22 sz3 zv3 by3 (by simp [Value.cells, Value.oneCell']) (by omega) (by omega) rfl rfl rfl rfl (fun v41 hv41 => ?_)
      refine St.ev _ (Ev.assign (Opd.mk rfl)) rfl ?_
      refine St.nil ?_
      refine St.in_normal ?_
      refine St.then_normal ?_
      refine St.rg ?_
      refine St.ev _ (Ev.move (Opd.mk rfl)) rfl ?_
      refine St.ev _ (Ev.add (Opd.mk rfl) (Opd.mk rfl) (by omega)) rfl ?_
      refine St.ev _ (Ev.assign (Opd.mk rfl)) rfl ?_
      refine St.nil ?_
      refine St.then_normal ?_
      refine St.rowEqN v41 (show _ = k + 1 by omega) (show _ = rows intR (part.take (k + 1)) by rw [take_of_some hq, rows_snoc]; rfl) ?_
      refine St.rowOne v41 (fun h2 _ => ?_)
      refine St.againH2 (k + 1) v41 ⟨by omega, h2⟩ (by first | omega | (dsimp only; omega)) (by repeat (first | exact Sub.nil | refine Sub.cons (by first | rfl | exact congrArg (fun z => some (iv z)) (by first | omega | (dsimp only; omega)) | exact congrArg (fun z => some (Value.bool z)) (by first | assumption | exact Eq.symm (by assumption))) ?_)) (fun _ hw => hw.sub)
    · skip
      try simp only [Bool.and_true, Bool.true_and, decide_eq_true_eq, decide_eq_false_iff_not, Bool.and_eq_true, Bool.or_eq_true, Bool.and_eq_false_iff, Bool.or_eq_false_iff, Bool.not_eq_true', Bool.not_eq_false', beq_iff_eq, beq_eq_false_iff_ne, Int.not_lt, Int.not_le] at h32
      obtain rfl : k = part.length := by omega
      have ek : part.take part.length = part := List.take_length
      rw [ek]
      refine St.exit ?_
      refine St.then_exit ?_
      refine St.then_exit ?_
      refine St.in_hit ?_
      refine St.then_normal ?_
      refine St.seq ?_
      refine St.rg ?_
      refine St.ev _ (Ev.move (Opd.mk rfl)) rfl ?_
      refine St.ev _ (Ev.move (Opd.mk rfl)) rfl ?_
      refine St.buildSl (xs := [(Operand.tmp 43)]) (ps := [(0, (Operand.tmp 43))]) rfl (Opds.cons (Opd.mk rfl) Opds.nil) Try.underlying22 sz3 zv3 rfl rfl (by simp [Value.cells]) rfl rfl (fun b44 => ?_)
      refine St.appendRow (Opd.mk rfl) (Opd.mk rfl) Try.underlying22 sz3 zv3 by3 (by simp [Value.cells, Value.oneCell']) (by omega) (by omega) rfl rfl rfl rfl (fun v45 hv45 => ?_)
      refine St.rowEqN v45 (show _ = (part ++ [x]).length by simp) (show _ = rows intR (part ++ [x]) by rw [rows_snoc]; rfl) ?_
      have hxl : (part ++ [x]).length = part.length + 1 := by simp
      refine St.publish v45 intR (part ++ [x]) rfl rfl (fun q hq => by
        rcases List.mem_append.1 hq with hq | hq
        · exact hwf1 q hq
        · obtain rfl := List.mem_singleton.1 hq; exact hx) ?_
      refine St.ev _ (Ev.assign (Opd.mk rfl)) rfl ?_
      refine St.nil ?_
      refine St.then_normal ?_
      refine St.seq ?_
      refine St.rg ?_
      refine St.ev _ (Ev.move (Opd.mk rfl)) rfl ?_
      refine St.ev _ (Ev.move (Opd.mk rfl)) rfl ?_
      refine St.ev _ (Ev.move (Opd.mk rfl)) rfl ?_
      refine St.calld (Find_ok v0 u0 v1 p part hz (by omega)) cb17 (Opds.cons (Opd.mk rfl) (Opds.cons (Opd.mk rfl) (Opds.cons (Opd.mk rfl) Opds.nil))) rfl ?_
      rintro v50 _ ⟨w0, rfl, h3, rfl⟩
      refine St.app1 ?_
      refine St.publish w0 intR (ints (placesOf p part)) rfl (ints_length _).symm (places_wf hok.1) ?_
      refine St.ev _ (Ev.move (Opd.mk rfl)) rfl ?_
      refine St.ev _ (Ev.extract (Opd.mk rfl) rfl) rfl ?_
      refine St.ev _ (Ev.extract (Opd.mk rfl) rfl) rfl ?_
      refine St.alloc zc25 rfl (fun b12 => ?_)
      refine St.ev _ (Ev.assign (Opd.mk rfl)) rfl ?_
      refine St.storeA (Opd.mk rfl) (Opd.mk rfl) sz25 (by first | simp only [List.length_cons, List.length_nil] | rfl) rfl ?_
      refine St.nil ?_
      refine St.then_normal ?_
      refine St.seq ?_
      refine St.rg ?_
      refine St.ev _ (Ev.move (Opd.mk rfl)) rfl ?_
      refine St.ev _ (Ev.move (Opd.mk rfl)) rfl ?_
      refine St.ev _ (Ev.move (Opd.mk rfl)) rfl ?_
      refine St.calld (Find_ok v0 u0 v45 p (part ++ [x]) hz (by omega)) cb17 (Opds.cons (Opd.mk rfl) (Opds.cons (Opd.mk rfl) (Opds.cons (Opd.mk rfl) Opds.nil))) rfl ?_
      rintro v57 _ ⟨y0, rfl, h4, rfl⟩
      refine St.app1 ?_
      refine St.publish y0 intR (ints (placesOf p (part ++ [x]))) rfl (ints_length _).symm (places_wf hok.1) ?_
      refine St.ev _ (Ev.move (Opd.mk rfl)) rfl ?_
      refine St.ev _ (Ev.extract (Opd.mk rfl) rfl) rfl ?_
      refine St.ev _ (Ev.extract (Opd.mk rfl) rfl) rfl ?_
      refine St.alloc zc25 rfl (fun b14 => ?_)
      refine St.ev _ (Ev.assign (Opd.mk rfl)) rfl ?_
      refine St.storeA (Opd.mk rfl) (Opd.mk rfl) sz25 (by first | simp only [List.length_cons, List.length_nil] | rfl) rfl ?_
      refine St.nil ?_
      refine St.then_normal ?_
      refine St.seq ?_
      refine St.seq ?_
      refine St.rg ?_
      refine St.ev _ (Ev.fldb0 (Opd.mk rfl) fo25_0) rfl ?_
      refine St.ev _ (Ev.ldb (Opd.mk rfl) Try.underlying3 trivial (by rfl)) rfl ?_
      refine St.ev _ (Ev.neq (Opd.mk rfl) (Opd.mk rfl)) rfl ?_
      refine St.ev _ (Ev.move (Opd.mk rfl)) rfl ?_
      refine St.gf _ rfl rfl (fun hg => Ev.fldb0 (Opd.mk rfl) fo25_0) rfl ?_
      refine St.gf _ rfl rfl (fun hg => Ev.ldb (Opd.gv rfl hg) Try.underlying3 trivial (by rfl)) rfl ?_
      refine St.gf _ rfl rfl (fun hg => Ev.neq (Opd.gv rfl hg) (Opd.mk rfl)) rfl ?_
      refine St.ev _ (Ev.or (Opd.mk rfl) (fun hp => Opd.gv rfl hp)) rfl ?_
      refine St.nil ?_
      refine St.then_normal ?_
      refine St.condf _ rfl rfl ?_
      refine St.skip ?_
      refine St.then_normal ?_
      refine St.seq ?_
      have hpl := placesOf_len p part
      have hli := ints_length (placesOf p part)
      refine St.rg ?_
      refine St.buildSl (xs := []) (ps := []) rfl (Opds.nil) Try.underlying22 sz3 zv3 rfl rfl (by simp [Value.cells]) rfl rfl (fun b68 => ?_)
      refine St.ev _ (Ev.assign (Opd.mk rfl)) rfl ?_
      refine St.nil ?_
      refine St.then_normal ?_
      refine St.seq ?_
      refine St.seq ?_
      refine St.rg ?_
      refine St.ev _ (Ev.assign (Opd.mk rfl)) rfl ?_
      refine St.nil ?_
      refine St.then_normal ?_
      refine St.block ?_
      refine St.rowEqN (.slice (some ⟨b68, 0, none⟩) 0 0) (show _ = (endsTo p part x 0).length from rfl) (show _ = rows intR (ints (endsTo p part x 0)) from rfl) ?_
      refine St.loopH2 (ι := Nat) (κ := Value) (fun j v T => (16, iv j) :: (15, v) :: T) (fun j v => [row v 3 1 (endsTo p part x j).length (rows intR (ints (endsTo p part x j))), dat (sl intR v0 p), dat (sl intR v1 part), dat (sl intR u0 (ints (sufOf p))), dat (sl intR w0 (ints (placesOf p part))), dat (sl intR y0 (ints (placesOf p (part ++ [x]))))]) (fun j v => j ≤ (placesOf p part).length ∧ v.oneCell' = true) (fun j v => (placesOf p part).length - j) 0 (.slice (some ⟨b68, 0, none⟩) 0 0) (Keep.cons 0 rfl (Keep.cons 1 rfl (Keep.cons 2 rfl (Keep.cons 6 rfl (Keep.cons 11 rfl (Keep.cons 13 rfl Keep.nil)))))) ⟨Nat.zero_le _, rfl⟩ (by repeat (first | exact Sub.nil | refine Sub.cons (by first | rfl | exact congrArg (fun z => some (iv z)) (by first | omega | (dsimp only; omega)) | exact congrArg (fun z => some (Value.bool z)) (by first | assumption | exact Eq.symm (by assumption))) ?_)) (fun _ hw => hw.sub) ?_
      intro j v hphi
      obtain ⟨hj, hv2⟩ := hphi
      have hel := endsTo_len p part x j
      refine St.seq ?_
      refine St.seq ?_
      refine St.rg ?_
      refine St.ev _ (Ev.move (Opd.mk rfl)) rfl ?_
      refine St.ev _ (Ev.move (Opd.mk rfl)) rfl ?_
      refine St.ev _ (Ev.lensl (Opd.mk rfl) Try.underlying22) rfl ?_
      refine St.ev _ (Ev.lss (Opd.mk rfl) (Opd.mk rfl)) rfl ?_
      refine St.nil ?_
      refine St.then_normal ?_
      refine St.cond _ rfl (fun h72 => ?_) (fun h72 => ?_)
      · skip
        try simp only [Bool.and_true, Bool.true_and, decide_eq_true_eq, decide_eq_false_iff_not, Bool.and_eq_true, Bool.or_eq_true, Bool.and_eq_false_iff, Bool.or_eq_false_iff, Bool.not_eq_true', Bool.not_eq_false', beq_iff_eq, beq_eq_false_iff_ne, Int.not_lt, Int.not_le] at h72
        obtain ⟨i, hi⟩ := some_of_lt (show j < (placesOf p part).length by omega)
        have hil := placesOf_lt (List.mem_of_getElem? hi)
        have e0 : (ints (placesOf p part))[j]? = some (i : Int) := by show ((placesOf p part).map _)[j]? = _; rw [List.getElem?_map, hi]; rfl
        refine St.skip ?_
        refine St.then_normal ?_
        refine St.seq ?_
        refine St.block ?_
        refine St.seq ?_
        refine St.rg ?_
        refine St.ev _ (Ev.move (Opd.mk rfl)) rfl ?_
        refine St.ev _ (Ev.move (Opd.mk rfl)) rfl ?_
        refine St.ev _ (Ev.idxaddr  (Opd.mk rfl) (Opd.mk rfl) Try.underlying22 sz3 rfl (by omega)) rfl ?_
        refine St.ev _ (Ev.ld1 (Opd.mk rfl) e0 Try.underlying3 trivial rfl) rfl ?_
        refine St.ev _ (Ev.move (Opd.mk rfl)) rfl ?_
        refine St.ev _ (Ev.lensl (Opd.mk rfl) Try.underlying22) rfl ?_
        refine St.ev _ (Ev.add (Opd.mk rfl) (Opd.mk rfl) (by omega)) rfl ?_
        refine St.ev _ (Ev.assign (Opd.mk rfl)) rfl ?_
        refine St.nil ?_
        refine St.then_normal ?_
        refine St.seq ?_
        refine St.rg ?_
        refine St.ev _ (Ev.move (Opd.mk rfl)) rfl ?_
        refine St.ev _ (Ev.move (Opd.mk rfl)) rfl ?_
        refine St.ev _ (Ev.idxaddr  (Opd.mk rfl) (Opd.mk rfl) Try.underlying22 sz3 rfl (by omega)) rfl ?_
        refine St.ev _ (Ev.ld1 (Opd.mk rfl) e0 Try.underlying3 trivial rfl) rfl ?_
        refine St.ev _ (Ev.geq (Opd.mk rfl) (Opd.mk rfl)) rfl ?_
        refine St.ev _ (Ev.move (Opd.mk rfl)) rfl ?_
        refine St.gt _ rfl rfl (fun hg => Ev.move (Opd.mk rfl)) rfl ?_
        refine St.gt _ rfl rfl (fun hg => Ev.move (Opd.mk rfl)) rfl ?_
        refine St.gt _ rfl rfl (fun hg => Ev.lensl (Opd.gv rfl hg) Try.underlying22) rfl ?_
        refine St.gt _ rfl rfl (fun hg => Ev.lss (Opd.gv rfl hg) (Opd.gv rfl hg)) rfl ?_
        refine St.ev _ (Ev.and (Opd.mk rfl) (fun hp => Opd.gv rfl hp)) rfl ?_
        refine St.ev _ (Ev.move (Opd.mk rfl)) rfl ?_
        refine St.gt _ rfl rfl (fun hg => Ev.move (Opd.mk rfl)) rfl ?_
        refine St.gt _ rfl rfl (fun hg => Ev.move (Opd.mk rfl)) rfl ?_
        refine St.gt _ rfl rfl (fun hg => Ev.idxaddr (k := (i + part.length)) (Opd.gv rfl hg) (Opd.gv rfl hg) Try.underlying22 sz3 (by first | omega | (simp only [Bool.and_true, Bool.true_and, decide_eq_true_eq, decide_eq_false_iff_not, Bool.and_eq_true, Bool.or_eq_true, Bool.and_eq_false_iff, Bool.or_eq_false_iff, Bool.not_eq_true', Bool.not_eq_false', beq_iff_eq, beq_eq_false_iff_ne, Int.not_lt, Int.not_le] at hg; omega)) (by first | omega | (simp only [Bool.and_true, Bool.true_and, decide_eq_true_eq, decide_eq_false_iff_not, Bool.and_eq_true, Bool.or_eq_true, Bool.and_eq_false_iff, Bool.or_eq_false_iff, Bool.not_eq_true', Bool.not_eq_false', beq_iff_eq, beq_eq_false_iff_ne, Int.not_lt, Int.not_le] at hg; omega))) rfl ?_
        refine St.gt _ rfl rfl (fun hg => Ev.ld1 (Opd.gv rfl hg) (some_getD 0 (by first | omega | (simp only [Bool.and_true, Bool.true_and, decide_eq_true_eq, decide_eq_false_iff_not, Bool.and_eq_true, Bool.or_eq_true, Bool.and_eq_false_iff, Bool.or_eq_false_iff, Bool.not_eq_true', Bool.not_eq_false', beq_iff_eq, beq_eq_false_iff_ne, Int.not_lt, Int.not_le] at hg; omega))) Try.underlying3 trivial rfl) rfl ?_
        refine St.gt _ rfl rfl (fun hg => Ev.move (Opd.mk rfl)) rfl ?_
        refine St.gt _ rfl rfl (fun hg => Ev.eql (Opd.gv rfl hg) (Opd.gv rfl hg)) rfl ?_
        refine St.ev _ (Ev.and (Opd.mk rfl) (fun hp => Opd.gv rfl hp)) rfl ?_
        refine St.nil ?_
        refine St.then_normal ?_
        refine St.cond _ rfl (fun h100 => ?_) (fun h100 => ?_)
        · skip
          try simp only [Bool.and_true, Bool.true_and, decide_eq_true_eq, decide_eq_false_iff_not, Bool.and_eq_true, Bool.or_eq_true, Bool.and_eq_false_iff, Bool.or_eq_false_iff, Bool.not_eq_true', Bool.not_eq_false', beq_iff_eq, beq_eq_false_iff_ne, Int.not_lt, Int.not_le] at h100
          have hq : i + part.length < p.length ∧ p.getD (i + part.length) 0 = x := ⟨by omega, h100.2⟩
          refine St.rg ?_
          refine St.ev _ (Ev.move (Opd.mk rfl)) rfl ?_
          refine St.ev _ (Ev.move (Opd.mk rfl)) rfl ?_
          refine St.ev _ (Ev.move (Opd.mk rfl)) rfl ?_
          refine St.ev _ (Ev.idxaddr  (Opd.mk rfl) (Opd.mk rfl) Try.underlying22 sz3 rfl (by omega)) rfl ?_
          refine St.ev _ (Ev.ld1 (Opd.mk rfl) e0 Try.underlying3 trivial rfl) rfl ?_
          refine St.buildSl (xs := [(Operand.tmp 105)]) (ps := [(0, (Operand.tmp 105))]) rfl (Opds.cons (Opd.mk rfl) Opds.nil) Try.underlying22 sz3 zv3 rfl rfl (by simp [Value.cells]) rfl rfl (fun b106 => ?_)
          refine St.appendRow (Opd.mk rfl) (Opd.mk rfl) Try.underlying22 sz3 zv3 by3 (by simp [Value.cells, Value.oneCell']) (by omega) (by omega) rfl rfl rfl rfl (fun v107 hv107 => ?_)
          refine St.rowEqN v107 (show _ = (endsTo p part x (j + 1)).length by rw [endsTo_t hi hq]; simp) (show _ = rows intR (ints (endsTo p part x (j + 1))) by rw [endsTo_t hi hq, ints_snoc, rows_snoc]; rfl) ?_
          refine St.rowOne v107 (fun h5 _ => ?_)
          refine St.ev _ (Ev.assign (Opd.mk rfl)) rfl ?_
          refine St.nil ?_
          refine St.in_normal ?_
          refine St.then_normal ?_
          refine St.rg ?_
          refine St.ev _ (Ev.move (Opd.mk rfl)) rfl ?_
          refine St.ev _ (Ev.add (Opd.mk rfl) (Opd.mk rfl) (by omega)) rfl ?_
          refine St.ev _ (Ev.assign (Opd.mk rfl)) rfl ?_
          refine St.nil ?_
          refine St.then_normal ?_
          refine St.againH2 (j + 1) v107 ⟨by omega, h5⟩ (by first | omega | (dsimp only; omega)) (by repeat (first | exact Sub.nil | refine Sub.cons (by first | rfl | exact congrArg (fun z => some (iv z)) (by first | omega | (dsimp only; omega)) | exact congrArg (fun z => some (Value.bool z)) (by first | assumption | exact Eq.symm (by assumption))) ?_)) (fun _ hw => hw.sub)
        · skip
          try simp only [Bool.and_true, Bool.true_and, decide_eq_true_eq, decide_eq_false_iff_not, Bool.and_eq_true, Bool.or_eq_true, Bool.and_eq_false_iff, Bool.or_eq_false_iff, Bool.not_eq_true', Bool.not_eq_false', beq_iff_eq, beq_eq_false_iff_ne, Int.not_lt, Int.not_le] at h100
          have hq : ¬ (i + part.length < p.length ∧ p.getD (i + part.length) 0 = x) := by rintro ⟨q1, q2⟩; rcases h100 with q | q; omega; exact q q2
          refine St.skip ?_
          refine St.in_normal ?_
          refine St.then_normal ?_
          refine St.rg ?_
          refine St.ev _ (Ev.move (Opd.mk rfl)) rfl ?_
          refine St.ev _ (Ev.add (Opd.mk rfl) (Opd.mk rfl) (by omega)) rfl ?_
          refine St.ev _ (Ev.assign (Opd.mk rfl)) rfl ?_
          refine St.nil ?_
          refine St.then_normal ?_
          have hq2 := endsTo_f hi hq
          refine St.rowEqN v (show _ = (endsTo p part x (j + 1)).length by rw [hq2]) (show _ = rows intR (ints (endsTo p part x (j + 1))) by rw [hq2]) ?_
          refine St.againH2 (j + 1) v ⟨by omega, hv2⟩ (by first | omega | (dsimp only; omega)) (by repeat (first | exact Sub.nil | refine Sub.cons (by first | rfl | exact congrArg (fun z => some (iv z)) (by first | omega | (dsimp only; omega)) | exact congrArg (fun z => some (Value.bool z)) (by first | assumption | exact Eq.symm (by assumption))) ?_)) (fun _ hw => hw.sub)
      · skip
        try simp only [Bool.and_true, Bool.true_and, decide_eq_true_eq, decide_eq_false_iff_not, Bool.and_eq_true, Bool.or_eq_true, Bool.and_eq_false_iff, Bool.or_eq_false_iff, Bool.not_eq_true', Bool.not_eq_false', beq_iff_eq, beq_eq_false_iff_ne, Int.not_lt, Int.not_le] at h72
        rw [endsTo_end (show (placesOf p part).length ≤ j by omega)]
        refine St.publish v intR (ints (placesOf p (part ++ [x]))) rfl (ints_length _).symm (places_wf hok.1) ?_
        refine St.exit ?_
        refine St.then_exit ?_
        refine St.then_exit ?_
        refine St.in_hit ?_
        refine St.then_normal ?_
        refine St.seq ?_
        refine St.rg ?_
        refine St.ev _ (Ev.move (Opd.mk rfl)) rfl ?_
        refine St.ev _ (Ev.move (Opd.mk rfl)) rfl ?_
        refine St.ev _ (Ev.call (sameInts_spec y0 v (ints (placesOf p (part ++ [x]))) (ints (placesOf p (part ++ [x])))) cb15 (Opds.cons (Opd.mk rfl) (Opds.cons (Opd.mk rfl) Opds.nil))) rfl ?_
        refine St.ev _ (Ev.assign (Opd.mk rfl)) rfl ?_
        refine St.nil ?_
        refine St.then_normal ?_
        refine St.rett ?_
        refine St.rets [_] [] Try.results5 ⟨rfl, trivial⟩ ?_ (fun _ hw => hw.sub)
        exact be (by simp)

end Go.Proofs.Ytblmnncmkibhnaa
