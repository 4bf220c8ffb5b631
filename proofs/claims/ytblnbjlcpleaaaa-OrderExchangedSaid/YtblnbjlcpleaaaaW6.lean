/-
  One order: whether it is allowed, in the code and in the reference; the closed example.
  Conditions: none.
-/
import Derived.Test.YtblnbjlcpleaaaaW5
set_option linter.unusedSimpArgs false
set_option linter.unusedVariables false
namespace Go.Proofs.Ytblnbjlcpleaaaa
open Go Go.J


/-- the first element of an order that is out of range or comes twice -/
def ofF (n : Int) (pre : List Int) : List Int → Int × Int
  | [] => (0, 0)
  | x :: xs => if x < 0 ∨ n ≤ x then (3, pre.length) else if (pre.any fun y => decide (x = y)) then (7, pre.length) else ofF n (pre ++ [x]) xs
theorem ofF_step {n : Int} {l : List Int} {k : Nat} {x : Int} (hx : l[k]? = some x) : ofF n (l.take k) (l.drop k) = if x < 0 ∨ n ≤ x then (3, (k : Int)) else if ((l.take k).any fun y => decide (x = y)) then (7, (k : Int)) else ofF n (l.take (k + 1)) (l.drop (k + 1)) := by
  have hk := lt_of_some hx
  rw [drop_of_some hx, take_of_some hx]
  simp only [ofF, List.length_take, Nat.min_eq_left (Nat.le_of_lt hk)]
theorem ofF_ok : ∀ (n : Int) (l pre : List Int), ofF n pre l = (0, 0) → ∀ x ∈ l, 0 ≤ x ∧ x < n
  | n, [], _, _ => fun x hx => by cases hx
  | n, y :: l, pre, h => fun x hx => by
    simp only [ofF] at h
    split at h
    · simp at h
    · split at h
      · simp at h
      · rcases List.mem_cons.1 hx with rfl | hx
        · omega
        · exact ofF_ok n l _ h x hx
theorem ofF_end {n : Int} {l : List Int} {k : Nat} (h : l.length ≤ k) : ofF n (l.take k) (l.drop k) = (0, 0) := by rw [List.drop_of_length_le h]; rfl
theorem ofF_code : ∀ (n : Int) (l pre : List Int), (ofF n pre l).1 = 0 → ofF n pre l = (0, 0)
  | n, [], _, _ => rfl
  | n, y :: l, pre, h => by
    simp only [ofF] at h ⊢
    split at h
    · simp at h
    · split at h
      · simp at h
      · rename_i h1 h2; rw [if_neg h1, if_neg h2]; exact ofF_code n l _ h
/-- what is wrong with an order -/
def fault0 (rules : List Prec) (ks : List Str) (l : List Int) : Int × Int := if (chk rules ks).1 ≠ 0 then chk rules ks else if (l.length : Int) ≠ ks.length then (9, -3) else (0, 0)
def faultOf (rules : List Prec) (ks : List Str) (l : List Int) : Int × Int := if (fault0 rules ks l).1 ≠ 0 then fault0 rules ks l else ofF ks.length [] l
def allowedOf (rules : List Prec) (ks : List Str) (l : List Int) : Bool × Int × (Int × Int) :=
  if (faultOf rules ks l).1 ≠ 0 then (false, 0, faultOf rules ks l) else (decide (brokenBy rules (rowOf ks l) < 0), brokenBy rules (rowOf ks l), (0, 0))
theorem nfFrom_code : ∀ (k : Nat) (ks : List Str), (nfFrom k ks).1 = 0 → nfFrom k ks = (0, 0)
  | _, [], _ => rfl
  | k, s :: ks, h => by
    simp only [nfFrom] at h ⊢
    split at h
    · rename_i h1; rw [if_pos h1]; exact nfFrom_code _ ks h
    · cases h
theorem chk_code {rules : List Prec} {ks : List Str} (h : (chk rules ks).1 = 0) : chk rules ks = (0, 0) := by
  unfold chk at h ⊢
  split at h
  · rename_i h0; exact absurd h h0
  · rename_i h0
    rw [if_neg h0]
    split at h
    · cases h
    · rename_i h1; rw [if_neg h1]; exact nfFrom_code _ ks h
theorem ret3 {b c : Bool} {i j : Int} {f g : Int × Int} (h : (b, i, f) = (c, j, g)) : ret1 [Value.bool b, iv i, fv f] = .tuple #[.bool c, iv j, fv g] := by
  simp only [Prod.mk.injEq] at h
  obtain ⟨rfl, rfl, rfl⟩ := h
  rfl

theorem Allowed_spec (v0 v1 v2 : Value) (rules : List Prec) (ks : List Str) (l : List Int) : FnV Try.prog 10 #[v0, v1, v2] [sl precR v0 rules, sl strR v1 ks, sl intR v2 l] (.tuple #[.bool (allowedOf rules ks l).1, iv (allowedOf rules ks l).2.1, fv (allowedOf rules ks l).2.2]) := by
  refine FnV.body3 (args := [v0, v1, v2]) 59 Try.func10 rfl Try.ntmps10 rfl (fun c => ?_)
  refine St.seq ?_
  refine St.wf v1 (fun hwf1 hlen1 => ?_)
  refine St.wf v2 (fun hwf hlen => ?_)
  refine St.rg ?_
  refine St.ev _ (Ev.assign (Opd.mk rfl)) rfl ?_
  refine St.ev _ (Ev.assign (Opd.mk rfl)) rfl ?_
  refine St.alloc zc27 rfl (fun b8 => ?_)
  refine St.nil ?_
  refine St.then_normal ?_
  refine St.seq ?_
  refine St.seq ?_
  refine St.rg ?_
  refine St.ev _ (Ev.move (Opd.mk rfl)) rfl ?_
  refine St.ev _ (Ev.move (Opd.mk rfl)) rfl ?_
  refine St.ev _ (Ev.call (check_spec v0 v1 rules ks) cb24 (Opds.cons (Opd.mk rfl) (Opds.cons (Opd.mk rfl) Opds.nil))) rfl ?_
  refine St.alloc zc27 rfl (fun b9 => ?_)
  refine St.storeA (Opd.mk rfl) (Opd.mk rfl) sz27 (by first | simp only [List.length_cons, List.length_nil] | rfl) rfl ?_
  refine St.nil ?_
  refine St.then_normal ?_
  refine St.seq ?_
  refine St.rg ?_
  refine St.ev _ (Ev.fldb0 (Opd.mk rfl) fo27_0) rfl ?_
  refine St.ev _ (Ev.ldb (Opd.mk rfl) Try.underlying3 trivial (by rfl)) rfl ?_
  refine St.ev _ (Ev.neq (Opd.mk rfl) (Opd.mk rfl)) rfl ?_
  refine St.nil ?_
  refine St.then_normal ?_
  refine St.cond _ rfl (fun h18 => ?_) (fun h18 => ?_)
  · skip
    try simp only [Bool.and_true, Bool.true_and, decide_eq_true_eq, decide_eq_false_iff_not, Bool.and_eq_true, Bool.or_eq_true, Bool.and_eq_false_iff, Bool.or_eq_false_iff, Bool.not_eq_true', Bool.not_eq_false', beq_iff_eq, beq_eq_false_iff_ne, Int.not_lt, Int.not_le] at h18
    refine St.seq ?_
    refine St.par [b8] mixed ?_
    refine SW.defer 0 (by repeat (first | refine NP.then ?_ | refine NP.inBlock ?_ | exact NP.body)) (by kernel_rfl) rfl (fun R => Ev.ldbA (Opd.mk rfl) Try.underlying27 trivial (by exact sz27)) (by kernel_rfl) rfl ?_
    refine SW.defer 1 (by repeat (first | refine NP.then ?_ | refine NP.inBlock ?_ | exact NP.body)) (by kernel_rfl) rfl (fun R => Ev.assign (Opd.mk rfl)) (by kernel_rfl) rfl ?_
    refine SW.defer 2 (by repeat (first | refine NP.then ?_ | refine NP.inBlock ?_ | exact NP.body)) (by kernel_rfl) rfl (fun R => Ev.assign (Opd.mk rfl)) (by kernel_rfl) rfl ?_
    refine SW.turn1 (i := 3) (by kernel_rfl) rfl ?_
    refine St.storeA (Opd.mk rfl) (Opd.mk rfl) sz27 (by first | simp only [List.length_cons, List.length_nil] | rfl) rfl ?_
    refine St.nil ?_
    refine St.then_normal ?_
    refine SW.go ?_
    refine SW.done (by kernel_rfl) ?_
    refine St.then_normal ?_
    refine St.rett ?_
    refine St.then_ret ?_
    refine St.rets [_, _, _] [] Try.results10 ⟨rfl, ⟨rfl, ⟨⟨_, _, _, _, rfl, InB.mem, .inl ⟨⟨_, Try.underlying27⟩, sz27, rfl⟩⟩, trivial⟩⟩⟩ ?_ (fun _ hw => hw.sub)
    have e : fault0 rules ks l = chk rules ks := by rw [fault0, if_pos h18]
    have e2 : faultOf rules ks l = chk rules ks := by rw [faultOf, e, if_pos h18]
    exact ret3 (by rw [allowedOf, e2, if_pos h18])
  · skip
    try simp only [Bool.and_true, Bool.true_and, decide_eq_true_eq, decide_eq_false_iff_not, Bool.and_eq_true, Bool.or_eq_true, Bool.and_eq_false_iff, Bool.or_eq_false_iff, Bool.not_eq_true', Bool.not_eq_false', beq_iff_eq, beq_eq_false_iff_ne, Int.not_lt, Int.not_le] at h18
    obtain ⟨hr, hks⟩ := chk_ok (show (chk rules ks).1 = 0 by omega)
    have hc0 := chk_code (show (chk rules ks).1 = 0 by omega)
    refine St.skip ?_
    refine St.then_normal ?_
    refine St.seq ?_
    refine St.seq ?_
    refine St.rg ?_
    refine St.ev _ (Ev.move (Opd.mk rfl)) rfl ?_
    refine St.ev _ (Ev.lensl (Opd.mk rfl) Try.underlying24) rfl ?_
    refine St.ev _ (Ev.move (Opd.mk rfl)) rfl ?_
    refine St.ev _ (Ev.lensl (Opd.mk rfl) Try.underlying23) rfl ?_
    refine St.ev _ (Ev.neq (Opd.mk rfl) (Opd.mk rfl)) rfl ?_
    refine St.nil ?_
    refine St.then_normal ?_
    refine St.cond _ rfl (fun h24 => ?_) (fun h24 => ?_)
    · skip
      try simp only [Bool.and_true, Bool.true_and, decide_eq_true_eq, decide_eq_false_iff_not, Bool.and_eq_true, Bool.or_eq_true, Bool.and_eq_false_iff, Bool.or_eq_false_iff, Bool.not_eq_true', Bool.not_eq_false', beq_iff_eq, beq_eq_false_iff_ne, Int.not_lt, Int.not_le] at h24
      refine St.seq ?_
      refine St.rg ?_
      refine St.ev _ (Ev.build (ps := [(0, (Operand.const (Value.int IntKind.i64 9))), (1, (Operand.const (Value.int IntKind.i64 (-3))))]) (Opds.cons (Opd.mk rfl) (Opds.cons (Opd.mk rfl) Opds.nil)) (fun w => bld27_0_1 rfl rfl w)) rfl ?_
      refine St.ev _ (Ev.assign (Opd.mk rfl)) rfl ?_
      refine St.ev _ (Ev.assign (Opd.mk rfl)) rfl ?_
      refine St.storeA (Opd.mk rfl) (Opd.mk rfl) sz27 (by first | simp only [List.length_cons, List.length_nil] | rfl) rfl ?_
      refine St.nil ?_
      refine St.then_normal ?_
      refine St.rett ?_
      refine St.then_ret ?_
      refine St.rets [_, _, _] [] Try.results10 ⟨rfl, ⟨rfl, ⟨⟨_, _, _, _, rfl, InB.mem, .inl ⟨⟨_, Try.underlying27⟩, sz27, rfl⟩⟩, trivial⟩⟩⟩ ?_ (fun _ hw => hw.sub)
      have e : fault0 rules ks l = (9, -3) := by rw [fault0, if_neg (by omega), if_pos h24]
      have e2 : faultOf rules ks l = (9, -3) := by rw [faultOf, e]; rfl
      exact ret3 (f := (9, -3)) (by rw [allowedOf, e2]; rfl)
    · skip
      try simp only [Bool.and_true, Bool.true_and, decide_eq_true_eq, decide_eq_false_iff_not, Bool.and_eq_true, Bool.or_eq_true, Bool.and_eq_false_iff, Bool.or_eq_false_iff, Bool.not_eq_true', Bool.not_eq_false', beq_iff_eq, beq_eq_false_iff_ne, Int.not_lt, Int.not_le] at h24
      have hf0 : fault0 rules ks l = (0, 0) := by rw [fault0, if_neg (by omega), if_neg (by omega)]
      have hfa : faultOf rules ks l = ofF ks.length [] l := by rw [faultOf, hf0]; rfl
      have hll : l.length = ks.length := by omega
      refine St.skip ?_
      refine St.then_normal ?_
      refine St.seq ?_
      refine St.seq ?_
      refine St.rg ?_
      refine St.ev _ (Ev.move (Opd.mk rfl)) rfl ?_
      refine St.ev _ (Ev.lensl (Opd.mk rfl) Try.underlying24) rfl ?_
      refine St.ev _ (Ev.move (Opd.mk rfl)) rfl ?_
      refine St.nil ?_
      refine St.then_normal ?_
      refine St.block ?_
      refine St.loopS (ι := Nat) (fun k T => (28, iv k) :: T) (fun k => k ≤ l.length ∧ ofF ks.length [] l = ofF ks.length (l.take k) (l.drop k)) (fun k => l.length - k) 0 (Keep.cons 0 rfl (Keep.cons 1 rfl (Keep.cons 2 rfl (Keep.cons 8 rfl (Keep.cons 26 rfl (Keep.cons 27 rfl Keep.nil)))))) ⟨Nat.zero_le _, by rw [List.take_zero, List.drop_zero]⟩ (by repeat (first | exact Sub.nil | refine Sub.cons (by first | rfl | exact congrArg (fun z => some (iv z)) (by first | omega | (dsimp only; omega)) | exact congrArg (fun z => some (Value.bool z)) (by first | assumption | exact Eq.symm (by assumption))) ?_)) ?_
      intro k hphi
      obtain ⟨hk, hv⟩ := hphi
      refine St.seq ?_
      refine St.rg ?_
      refine St.ev _ (Ev.lss (Opd.mk rfl) (Opd.mk rfl)) rfl ?_
      refine St.nil ?_
      refine St.then_normal ?_
      refine St.seq ?_
      refine St.cond _ rfl (fun h29 => ?_) (fun h29 => ?_)
      · skip
        try simp only [Bool.and_true, Bool.true_and, decide_eq_true_eq, decide_eq_false_iff_not, Bool.and_eq_true, Bool.or_eq_true, Bool.and_eq_false_iff, Bool.or_eq_false_iff, Bool.not_eq_true', Bool.not_eq_false', beq_iff_eq, beq_eq_false_iff_ne, Int.not_lt, Int.not_le] at h29
        obtain ⟨x, hx⟩ := some_of_lt (show k < l.length by omega)
        refine St.part v2 0 k (Nat.zero_le _) (by omega) ?_
        rw [show (l.drop 0).take (k - 0) = l.take k by rw [List.drop_zero, Nat.sub_zero]]
        have htk : (l.take k).length = k := by rw [List.length_take]; omega
        refine St.skip ?_
        refine St.then_normal ?_
        refine St.seq ?_
        refine St.block ?_
        refine St.seq ?_
        refine St.rg ?_
        refine St.ev _ (Ev.move (Opd.mk rfl)) rfl ?_
        refine St.ev _ (Ev.idxaddr  (Opd.mk rfl) (Opd.mk rfl) Try.underlying24 sz3 rfl (by omega)) rfl ?_
        refine St.ev _ (Ev.ld1 (Opd.mk rfl) (by first | assumption | exact some_getD 0 (by omega)) Try.underlying3 trivial rfl) rfl ?_
        refine St.ev _ (Ev.assign (Opd.mk rfl)) rfl ?_
        refine St.ev _ (Ev.assign (Opd.mk rfl)) rfl ?_
        refine St.nil ?_
        refine St.then_normal ?_
        refine St.seq ?_
        refine St.seq ?_
        refine St.rg ?_
        refine St.ev _ (Ev.move (Opd.mk rfl)) rfl ?_
        refine St.ev _ (Ev.lss (Opd.mk rfl) (Opd.mk rfl)) rfl ?_
        refine St.ev _ (Ev.move (Opd.mk rfl)) rfl ?_
        refine St.gf _ rfl rfl (fun hg => Ev.move (Opd.mk rfl)) rfl ?_
        refine St.gf _ rfl rfl (fun hg => Ev.move (Opd.mk rfl)) rfl ?_
        refine St.gf _ rfl rfl (fun hg => Ev.lensl (Opd.gv rfl hg) Try.underlying23) rfl ?_
        refine St.gf _ rfl rfl (fun hg => Ev.geq (Opd.gv rfl hg) (Opd.gv rfl hg)) rfl ?_
        refine St.ev _ (Ev.or (Opd.mk rfl) (fun hp => Opd.gv rfl hp)) rfl ?_
        refine St.nil ?_
        refine St.then_normal ?_
        refine St.cond _ rfl (fun h40 => ?_) (fun h40 => ?_)
        · skip
          try simp only [Bool.and_true, Bool.true_and, decide_eq_true_eq, decide_eq_false_iff_not, Bool.and_eq_true, Bool.or_eq_true, Bool.and_eq_false_iff, Bool.or_eq_false_iff, Bool.not_eq_true', Bool.not_eq_false', beq_iff_eq, beq_eq_false_iff_ne, Int.not_lt, Int.not_le] at h40
          refine St.seq ?_
          refine St.rg ?_
          refine St.ev _ (Ev.move (Opd.mk rfl)) rfl ?_
          refine St.ev _ (Ev.build (ps := [(0, (Operand.const (Value.int IntKind.i64 3))), (1, (Operand.tmp 41))]) (Opds.cons (Opd.mk rfl) (Opds.cons (Opd.mk rfl) Opds.nil)) (fun w => bld27_0_1 rfl rfl w)) rfl ?_
          refine St.ev _ (Ev.assign (Opd.mk rfl)) rfl ?_
          refine St.ev _ (Ev.assign (Opd.mk rfl)) rfl ?_
          refine St.storeA (Opd.mk rfl) (Opd.mk rfl) sz27 (by first | simp only [List.length_cons, List.length_nil] | rfl) rfl ?_
          refine St.nil ?_
          refine St.then_normal ?_
          refine St.rett ?_
          refine St.then_ret ?_
          refine St.in_ret ?_
          refine St.then_ret ?_
          refine St.then_ret ?_
          refine St.in_ret ?_
          refine St.then_ret ?_
          refine St.rets [_, _, _] [] Try.results10 ⟨rfl, ⟨rfl, ⟨⟨_, _, _, _, rfl, InB.mem, .inl ⟨⟨_, Try.underlying27⟩, sz27, rfl⟩⟩, trivial⟩⟩⟩ ?_ (fun _ hw => hw.sub)
          have e2 : faultOf rules ks l = (3, (k : Int)) := by rw [hfa, hv, ofF_step hx, if_pos (by omega)]
          exact ret3 (f := (3, (k : Int))) (by rw [allowedOf, e2]; rfl)
        · skip
          try simp only [Bool.and_true, Bool.true_and, decide_eq_true_eq, decide_eq_false_iff_not, Bool.and_eq_true, Bool.or_eq_true, Bool.and_eq_false_iff, Bool.or_eq_false_iff, Bool.not_eq_true', Bool.not_eq_false', beq_iff_eq, beq_eq_false_iff_ne, Int.not_lt, Int.not_le] at h40
          refine St.skip ?_
          refine St.then_normal ?_
          refine St.seq ?_
          refine St.rg ?_
          refine St.ev _ (Ev.move (Opd.mk rfl)) rfl ?_
          refine St.ev _ (Ev.move (Opd.mk rfl)) rfl ?_
          refine St.ev _ (Ev.slicesl_h (h := k) (Opd.mk rfl) (Opd.mk rfl) Try.underlying24 sz3 (by omega) (by omega)) rfl ?_
          refine St.ev _ (Ev.move (Opd.mk rfl)) rfl ?_
          refine St.ev _ (Ev.call (ContainsI_spec (slv v2 intR.size 0 k) (l.take k) x) cb25 (Opds.cons (Opd.mk rfl) (Opds.cons (Opd.mk rfl) Opds.nil))) rfl ?_
          refine St.nil ?_
          refine St.then_normal ?_
          refine St.cond _ rfl (fun h47 => ?_) (fun h47 => ?_)
          · skip
            skip
            refine St.seq ?_
            refine St.rg ?_
            refine St.ev _ (Ev.move (Opd.mk rfl)) rfl ?_
            refine St.ev _ (Ev.build (ps := [(0, (Operand.const (Value.int IntKind.i64 7))), (1, (Operand.tmp 48))]) (Opds.cons (Opd.mk rfl) (Opds.cons (Opd.mk rfl) Opds.nil)) (fun w => bld27_0_1 rfl rfl w)) rfl ?_
            refine St.ev _ (Ev.assign (Opd.mk rfl)) rfl ?_
            refine St.ev _ (Ev.assign (Opd.mk rfl)) rfl ?_
            refine St.storeA (Opd.mk rfl) (Opd.mk rfl) sz27 (by first | simp only [List.length_cons, List.length_nil] | rfl) rfl ?_
            refine St.nil ?_
            refine St.then_normal ?_
            refine St.rett ?_
            refine St.in_ret ?_
            refine St.then_ret ?_
            refine St.then_ret ?_
            refine St.in_ret ?_
            refine St.then_ret ?_
            refine St.rets [_, _, _] [] Try.results10 ⟨rfl, ⟨rfl, ⟨⟨_, _, _, _, rfl, InB.mem, .inl ⟨⟨_, Try.underlying27⟩, sz27, rfl⟩⟩, trivial⟩⟩⟩ ?_ (fun _ hw => hw.sub)
            have e2 : faultOf rules ks l = (7, (k : Int)) := by rw [hfa, hv, ofF_step hx, if_neg (by omega), if_pos h47]
            exact ret3 (f := (7, (k : Int))) (by rw [allowedOf, e2]; rfl)
          · skip
            skip
            refine St.skip ?_
            refine St.in_normal ?_
            refine St.then_normal ?_
            refine St.rg ?_
            refine St.ev _ (Ev.add (Opd.mk rfl) (Opd.mk rfl) (by omega)) rfl ?_
            refine St.ev _ (Ev.move (Opd.mk rfl)) rfl ?_
            refine St.nil ?_
            refine St.then_normal ?_
            refine St.againS (k + 1) ⟨by omega, hv.trans (by rw [ofF_step hx, if_neg (by omega), if_neg (by rw [h47]; decide)])⟩ (by first | omega | (dsimp only; omega)) (by repeat (first | exact Sub.nil | refine Sub.cons (by first | rfl | exact congrArg (fun z => some (iv z)) (by first | omega | (dsimp only; omega)) | exact congrArg (fun z => some (Value.bool z)) (by first | assumption | exact Eq.symm (by assumption))) ?_)) (fun _ hw => hw.sub)
      · skip
        try simp only [Bool.and_true, Bool.true_and, decide_eq_true_eq, decide_eq_false_iff_not, Bool.and_eq_true, Bool.or_eq_true, Bool.and_eq_false_iff, Bool.or_eq_false_iff, Bool.not_eq_true', Bool.not_eq_false', beq_iff_eq, beq_eq_false_iff_ne, Int.not_lt, Int.not_le] at h29
        have hend : ofF ks.length [] l = (0, 0) := hv.trans (ofF_end (by omega))
        have hlo := ofF_ok _ _ _ hend
        have hfz : faultOf rules ks l = (0, 0) := hfa.trans hend
        refine St.exit ?_
        refine St.then_exit ?_
        refine St.then_exit ?_
        refine St.in_hit ?_
        refine St.then_normal ?_
        refine St.seq ?_
        refine St.rg ?_
        refine St.ev _ (Ev.move (Opd.mk rfl)) rfl ?_
        refine St.ev _ (Ev.move (Opd.mk rfl)) rfl ?_
        refine St.ev _ (Ev.move (Opd.mk rfl)) rfl ?_
        refine St.ev _ (Ev.call (broken_spec v0 v1 v2 rules ks l hr hlo (by omega)) cb26 (Opds.cons (Opd.mk rfl) (Opds.cons (Opd.mk rfl) (Opds.cons (Opd.mk rfl) Opds.nil)))) rfl ?_
        refine St.ev _ (Ev.assign (Opd.mk rfl)) rfl ?_
        refine St.nil ?_
        refine St.then_normal ?_
        refine St.seq ?_
        refine St.rg ?_
        refine St.ev _ (Ev.move (Opd.mk rfl)) rfl ?_
        refine St.ev _ (Ev.lss (Opd.mk rfl) (Opd.mk rfl)) rfl ?_
        refine St.ev _ (Ev.move (Opd.mk rfl)) rfl ?_
        refine St.ev _ (Ev.build (ps := []) (Opds.nil) (fun w => bld27_  w)) rfl ?_
        refine St.ev _ (Ev.assign (Opd.mk rfl)) rfl ?_
        refine St.ev _ (Ev.assign (Opd.mk rfl)) rfl ?_
        refine St.storeA (Opd.mk rfl) (Opd.mk rfl) sz27 (by first | simp only [List.length_cons, List.length_nil] | rfl) rfl ?_
        refine St.nil ?_
        refine St.then_normal ?_
        refine St.rett ?_
        refine St.rets [_, _, _] [] Try.results10 ⟨rfl, ⟨rfl, ⟨⟨_, _, _, _, rfl, InB.mem, .inl ⟨⟨_, Try.underlying27⟩, sz27, rfl⟩⟩, trivial⟩⟩⟩ ?_ (fun _ hw => hw.sub)
        exact ret3 (f := (0, 0)) (by rw [allowedOf, hfz]; rfl)

theorem sameInts_spec (v0 v1 : Value) (a b : List Int) : FnV Try.prog 14 #[v0, v1] [sl intR v0 a, sl intR v1 b] (.bool (decide (a = b))) := by
  refine FnV.body2 (args := [v0, v1]) 26 Try.func14 rfl Try.ntmps14 rfl (fun c => ?_)
  refine St.seq ?_
  refine St.wf v0 (fun hwf0 hlen0 => ?_)
  refine St.wf v1 (fun hwf1 hlen1 => ?_)
  refine St.rg ?_
  refine St.ev _ (Ev.assign (Opd.mk rfl)) rfl ?_
  refine St.nil ?_
  refine St.then_normal ?_
  refine St.seq ?_
  refine St.seq ?_
  refine St.rg ?_
  refine St.ev _ (Ev.move (Opd.mk rfl)) rfl ?_
  refine St.ev _ (Ev.lensl (Opd.mk rfl) Try.underlying24) rfl ?_
  refine St.ev _ (Ev.move (Opd.mk rfl)) rfl ?_
  refine St.ev _ (Ev.lensl (Opd.mk rfl) Try.underlying24) rfl ?_
  refine St.ev _ (Ev.neq (Opd.mk rfl) (Opd.mk rfl)) rfl ?_
  refine St.nil ?_
  refine St.then_normal ?_
  refine St.cond _ rfl (fun h10 => ?_) (fun h10 => ?_)
  · skip
    try simp only [Bool.and_true, Bool.true_and, decide_eq_true_eq, decide_eq_false_iff_not, Bool.and_eq_true, Bool.or_eq_true, Bool.and_eq_false_iff, Bool.or_eq_false_iff, Bool.not_eq_true', Bool.not_eq_false', beq_iff_eq, beq_eq_false_iff_ne, Int.not_lt, Int.not_le] at h10
    refine St.seq ?_
    refine St.rg ?_
    refine St.ev _ (Ev.assign (Opd.mk rfl)) rfl ?_
    refine St.nil ?_
    refine St.then_normal ?_
    refine St.rett ?_
    refine St.then_ret ?_
    refine St.rets [_] [] Try.results14 ⟨rfl, trivial⟩ ?_ (fun _ hw => hw.sub)
    exact be (by rw [eq_comm, decide_eq_false_iff_not]; rintro rfl; omega)
  · skip
    try simp only [Bool.and_true, Bool.true_and, decide_eq_true_eq, decide_eq_false_iff_not, Bool.and_eq_true, Bool.or_eq_true, Bool.and_eq_false_iff, Bool.or_eq_false_iff, Bool.not_eq_true', Bool.not_eq_false', beq_iff_eq, beq_eq_false_iff_ne, Int.not_lt, Int.not_le] at h10
    refine St.skip ?_
    refine St.then_normal ?_
    refine St.seq ?_
    refine St.seq ?_
    refine St.rg ?_
    refine St.ev _ (Ev.assign (Opd.mk rfl)) rfl ?_
    refine St.nil ?_
    refine St.then_normal ?_
    refine St.block ?_
    refine St.loopS (ι := Nat) (fun k T => (5, iv k) :: T) (fun k => k ≤ a.length ∧ a.take k = b.take k) (fun k => a.length - k) 0 (Keep.cons 0 rfl (Keep.cons 1 rfl Keep.nil)) ⟨Nat.zero_le _, rfl⟩ (by repeat (first | exact Sub.nil | refine Sub.cons (by first | rfl | exact congrArg (fun z => some (iv z)) (by first | omega | (dsimp only; omega)) | exact congrArg (fun z => some (Value.bool z)) (by first | assumption | exact Eq.symm (by assumption))) ?_)) ?_
    intro k hphi
    obtain ⟨hk, hv⟩ := hphi
    refine St.seq ?_
    refine St.seq ?_
    refine St.rg ?_
    refine St.ev _ (Ev.move (Opd.mk rfl)) rfl ?_
    refine St.ev _ (Ev.move (Opd.mk rfl)) rfl ?_
    refine St.ev _ (Ev.lensl (Opd.mk rfl) Try.underlying24) rfl ?_
    refine St.ev _ (Ev.lss (Opd.mk rfl) (Opd.mk rfl)) rfl ?_
    refine St.nil ?_
    refine St.then_normal ?_
    refine St.cond _ rfl (fun h14 => ?_) (fun h14 => ?_)
    · skip
      try simp only [Bool.and_true, Bool.true_and, decide_eq_true_eq, decide_eq_false_iff_not, Bool.and_eq_true, Bool.or_eq_true, Bool.and_eq_false_iff, Bool.or_eq_false_iff, Bool.not_eq_true', Bool.not_eq_false', beq_iff_eq, beq_eq_false_iff_ne, Int.not_lt, Int.not_le] at h14
      refine St.skip ?_
      refine St.then_normal ?_
      refine St.seq ?_
      refine St.block ?_
      refine St.seq ?_
      refine St.rq mixed (by kernel_rfl) (Mm.drawn _ _) ?_
      refine Sq.ev _ (Ev.move (Opd.mk rfl)) rfl ?_
      refine Sq.ev _ (Ev.move (Opd.mk rfl)) rfl ?_
      refine Sq.ev _ (Ev.idxaddr  (Opd.mk rfl) (Opd.mk rfl) Try.underlying24 sz3 rfl (by omega)) rfl ?_
      refine Sq.ev _ (Ev.ld1 (Opd.mk rfl) (by first | assumption | exact some_getD 0 (by omega)) Try.underlying3 trivial rfl) rfl ?_
      refine Sq.ev _ (Ev.move (Opd.mk rfl)) rfl ?_
      refine Sq.ev _ (Ev.move (Opd.mk rfl)) rfl ?_
      refine Sq.ev _ (Ev.idxaddr  (Opd.mk rfl) (Opd.mk rfl) Try.underlying24 sz3 rfl (by omega)) rfl ?_
      refine Sq.ev _ (Ev.ld1 (Opd.mk rfl) (by first | assumption | exact some_getD 0 (by omega)) Try.underlying3 trivial rfl) rfl ?_
      refine Sq.ev _ (Ev.neq (Opd.mk rfl) (Opd.mk rfl)) rfl ?_
      refine Sq.nil ?_
      refine St.then_normal ?_
      refine St.cond _ rfl (fun h25 => ?_) (fun h25 => ?_)
      · skip
        try simp only [Bool.and_true, Bool.true_and, decide_eq_true_eq, decide_eq_false_iff_not, Bool.and_eq_true, Bool.or_eq_true, Bool.and_eq_false_iff, Bool.or_eq_false_iff, Bool.not_eq_true', Bool.not_eq_false', beq_iff_eq, beq_eq_false_iff_ne, Int.not_lt, Int.not_le] at h25
        refine St.seq ?_
        refine St.rg ?_
        refine St.ev _ (Ev.assign (Opd.mk rfl)) rfl ?_
        refine St.nil ?_
        refine St.then_normal ?_
        refine St.rett ?_
        refine St.in_ret ?_
        refine St.then_ret ?_
        refine St.then_ret ?_
        refine St.in_ret ?_
        refine St.then_ret ?_
        refine St.rets [_] [] Try.results14 ⟨rfl, trivial⟩ ?_ (fun _ hw => hw.sub)
        exact be (by rw [eq_comm, decide_eq_false_iff_not]; rintro rfl; exact h25 rfl)
      · skip
        try simp only [Bool.and_true, Bool.true_and, decide_eq_true_eq, decide_eq_false_iff_not, Bool.and_eq_true, Bool.or_eq_true, Bool.and_eq_false_iff, Bool.or_eq_false_iff, Bool.not_eq_true', Bool.not_eq_false', beq_iff_eq, beq_eq_false_iff_ne, Int.not_lt, Int.not_le] at h25
        refine St.skip ?_
        refine St.in_normal ?_
        refine St.then_normal ?_
        refine St.rg ?_
        refine St.ev _ (Ev.move (Opd.mk rfl)) rfl ?_
        refine St.ev _ (Ev.add (Opd.mk rfl) (Opd.mk rfl) (by omega)) rfl ?_
        refine St.ev _ (Ev.assign (Opd.mk rfl)) rfl ?_
        refine St.nil ?_
        refine St.then_normal ?_
        refine St.againS (k + 1) ⟨by omega, by rw [take_of_some (some_getD 0 (show k < a.length by omega)), take_of_some (some_getD 0 (show k < b.length by omega)), hv, show a.getD k 0 = b.getD k 0 by omega]⟩ (by first | omega | (dsimp only; omega)) (by repeat (first | exact Sub.nil | refine Sub.cons (by first | rfl | exact congrArg (fun z => some (iv z)) (by first | omega | (dsimp only; omega)) | exact congrArg (fun z => some (Value.bool z)) (by first | assumption | exact Eq.symm (by assumption))) ?_)) (fun _ hw => hw.sub)
    · skip
      try simp only [Bool.and_true, Bool.true_and, decide_eq_true_eq, decide_eq_false_iff_not, Bool.and_eq_true, Bool.or_eq_true, Bool.and_eq_false_iff, Bool.or_eq_false_iff, Bool.not_eq_true', Bool.not_eq_false', beq_iff_eq, beq_eq_false_iff_ne, Int.not_lt, Int.not_le] at h14
      refine St.exit ?_
      refine St.then_exit ?_
      refine St.then_exit ?_
      refine St.in_hit ?_
      refine St.then_normal ?_
      refine St.seq ?_
      refine St.rg ?_
      refine St.ev _ (Ev.assign (Opd.mk rfl)) rfl ?_
      refine St.nil ?_
      refine St.then_normal ?_
      refine St.rett ?_
      refine St.rets [_] [] Try.results14 ⟨rfl, trivial⟩ ?_ (fun _ hw => hw.sub)
      exact be (by rw [eq_comm, decide_eq_true_eq]; rw [List.take_of_length_le (by omega), List.take_of_length_le (by omega)] at hv; exact hv)

end Go.Proofs.Ytblnbjlcpleaaaa
