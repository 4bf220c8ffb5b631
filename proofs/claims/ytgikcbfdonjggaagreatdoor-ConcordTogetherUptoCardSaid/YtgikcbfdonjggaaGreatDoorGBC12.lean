/-
  The law of two lists together.
  Conditions: each list has at most 1048576 sentences.
-/
import Derived.Test.YtgikcbfdonjggaaGreatDoorGB6
set_option maxRecDepth 20000
set_option linter.unusedSimpArgs false
set_option linter.unusedVariables false
namespace Go.Proofs.YtgikcbfdonjggaaGreatDoor
open Go Go.J

def shH (n : Nat) (x : Hd) : Hd := ⟨x.s + n, x.a, x.l, x.r⟩
def shT (n : Nat) (x : Nat × Nat × OneV × OneV) : Nat × Nat × OneV × OneV := (x.1 + n, x.2)
theorem zip_app {A B : List Hd} {ua ub : List (OneV × OneV)} (ha : ua.length = A.length) (n : Nat) : List.zipWith hdR A ua ++ (List.zipWith hdR B ub).map (shT n) = List.zipWith hdR (A ++ B.map (shH n)) (ua ++ ub) := by
  rw [List.zipWith_append ha.symm, List.map_zipWith, List.zipWith_map_left]
  rfl
theorem hits_both (a b : List (List Str)) (p : List Str) (w : Nat) : hitsW (a ++ b) p w = hitsW a p w ++ (hitsW b p w).map (shH a.length) := by
  unfold hitsW
  rw [hitsOf_append, List.map_append, List.map_map, List.map_map]
  congr 1
  · refine List.map_congr_left fun h hh => ?_
    obtain ⟨s, hs, _⟩ := hitsOf_mem hh
    have hlt := lt_of_some hs
    have e : (a ++ b).getD h.1 [] = a.getD h.1 [] := by
      rw [List.getD_eq_getElem?_getD, List.getElem?_append_left hlt, ← List.getD_eq_getElem?_getD]
    unfold mkH; rw [e]
  · refine List.map_congr_left fun h hh => ?_
    have e : (a ++ b).getD (h.1 + a.length) [] = b.getD h.1 [] := by
      rw [List.getD_eq_getElem?_getD, List.getElem?_append_right (Nat.le_add_left ..), Nat.add_sub_cancel, ← List.getD_eq_getElem?_getD]
    simp only [Function.comp, mkH, shH, e]
theorem both_l (a b : List (List Str)) (p : List Str) (w : Nat) : (hitsW a p w).map Hd.l ++ (hitsW b p w).map Hd.l = (hitsW (a ++ b) p w).map Hd.l := by
  rw [hits_both, List.map_append, List.map_map]; rfl
theorem both_r (a b : List (List Str)) (p : List Str) (w : Nat) : (hitsW a p w).map Hd.r ++ (hitsW b p w).map Hd.r = (hitsW (a ++ b) p w).map Hd.r := by
  rw [hits_both, List.map_append, List.map_map]; rfl
theorem ptw_app {α : Type} {Rr : Rp α} {va vb : List OneV} {a b : List (List α)} {ρ : Ro} (h1 : (ptw Rr va a).f ρ) (h2 : (ptw Rr vb b).f ρ) (hl : va.length = a.length) : (ptw Rr (va ++ vb) (a ++ b)).f ρ := by
  intro i u l hu hl'
  rcases Nat.lt_or_ge i va.length with hi | hi
  · rw [List.getElem?_append_left hi] at hu
    rw [List.getElem?_append_left (by omega)] at hl'
    exact h1 i u l hu hl'
  · rw [List.getElem?_append_right hi] at hu
    rw [List.getElem?_append_right (by omega), ← hl] at hl'
    exact h2 _ u l hu hl'
theorem St.ptwApp {n : Nat} {F : Fr} {c : Ctx} {H : List Ent} {T : Act → World → Prop} {α : Type} {Rr : Rp α} (va vb : List OneV) {a b : List (List α)} [h1 : InW va H α Rr a] [h2 : InW vb H α Rr b] (hl : va.length = a.length)
    (k : St n F (Mm c (dat (ptw Rr (va ++ vb) (a ++ b)) :: H)) T) : St n F (Mm c H) T :=
  St.fact _ (fun ρ w hm => ptw_app (dat_ok.1 (hm.ents _ h1.mem)) (dat_ok.1 (hm.ents _ h2.mem)) hl) k

set_option maxHeartbeats 4000000 in
theorem law2_spec (v0 v1 v2 : Value) (a b : List (List Str)) (p : List Str) (w : Int) (hla : a.length ≤ 1048576) (hlb : b.length ≤ 1048576) : FnVw Tryz.prog 4 #[v0, v1, v2, iv w] [nsl strR v0 a, nsl strR v1 b, sl strR v2 p, u8] (.bool true) := by
  refine FnVw.body (args := [v0, v1, v2, iv w]) (ds := [(nsl strR v0 a), (nsl strR v1 b), (sl strR v2 p), u8]) 164 Tryz.func4 rfl Tryz.ntmps4 rfl (fun c hdr => ?_)
  change St _ _ (Mm c [dat (nsl strR v0 a), dat (nsl strR v1 b), dat (sl strR v2 p), dat u8]) _
  refine St.seq ?_
  refine St.rg ?_
  refine St.ev _ (Ev.assign (Opd.mk rfl)) rfl ?_
  refine St.nil ?_
  refine St.then_normal ?_
  refine St.seq ?_
  refine St.seq ?_
  refine St.rg ?_
  refine St.ev _ (Ev.callW hdr ready_spec cb10 (Opds.nil)) rfl ?_
  refine St.ev _ (Ev.not (Opd.mk rfl)) rfl ?_
  refine St.nil ?_
  refine St.then_normal ?_
  refine St.condf _ rfl rfl ?_
  refine St.skip ?_
  refine St.then_normal ?_
  refine St.seq ?_
  refine St.openNs v0 (fun va hva => ?_)
  refine St.openNs v1 (fun vb hvb => ?_)
  refine St.rg ?_
  refine St.buildSl (xs := []) (ps := []) rfl (Opds.nil) Tryz.underlying22 sz23 zv23 rfl rfl (by simp [Value.cells]) rfl rfl (fun b30 => ?_)
  refine St.ev _ (Ev.assign (Opd.mk rfl)) rfl ?_
  refine St.nil ?_
  refine St.then_normal ?_
  refine St.seq ?_
  refine St.seq ?_
  refine St.rg ?_
  refine St.ev _ (Ev.assign (Opd.mk rfl)) rfl ?_
  refine St.nil ?_
  refine St.then_normal ?_
  refine St.block ?_
  refine St.rowEqN (.slice (some ⟨b30, 0, none⟩) 0 0) (show _ = (va.take 0).length from rfl) (show _ = rows valR (va.take 0) from rfl) ?_
  refine St.loopH2 (ι := Nat) (κ := Value) (fun i z T => (10, iv i) :: (9, z) :: T) (fun i z => [row z 23 1 (va.take i).length (rows valR (va.take i)), dat (sl valR v0 va), dat (ptw strR va a), dat (sl valR v1 vb), dat (ptw strR vb b), dat (nsl strR v0 a), dat (nsl strR v1 b), dat (sl strR v2 p), dat u8]) (fun i z => i ≤ a.length) (fun i z => a.length - i) 0 (.slice (some ⟨b30, 0, none⟩) 0 0) (Keep.cons 0 rfl (Keep.cons 1 rfl (Keep.cons 2 rfl (Keep.cons 3 rfl (Keep.cons 8 rfl Keep.nil))))) (Nat.zero_le _) (by repeat (first | exact Sub.nil | refine Sub.cons (by first | rfl | exact congrArg (fun z => some (iv z)) (by first | omega | (dsimp only; omega)) | exact congrArg (fun z => some (Value.bool z)) (by first | assumption | exact Eq.symm (by assumption))) ?_)) (fun _ hw => hw.sub) ?_
  intro i z hi
  have hil : (va.take i).length ≤ 1048576 := by rw [List.length_take]; omega
  refine St.seq ?_
  refine St.seq ?_
  refine St.rg ?_
  refine St.ev _ (Ev.move (Opd.mk rfl)) rfl ?_
  refine St.ev _ (Ev.move (Opd.mk rfl)) rfl ?_
  refine St.ev _ (Ev.lensl (Opd.mk rfl) Tryz.underlying22) rfl ?_
  refine St.ev _ (Ev.lss (Opd.mk rfl) (Opd.mk rfl)) rfl ?_
  refine St.nil ?_
  refine St.then_normal ?_
  refine St.cond _ rfl (fun h34 => ?_) (fun h34 => ?_)
  · skip
    try simp only [Bool.and_true, Bool.true_and, decide_eq_true_eq, decide_eq_false_iff_not, Bool.and_eq_true, Bool.or_eq_true, Bool.and_eq_false_iff, Bool.or_eq_false_iff, Bool.not_eq_true', Bool.not_eq_false', beq_iff_eq, beq_eq_false_iff_ne, Int.not_lt, Int.not_le] at h34
    obtain ⟨u, hu⟩ := some_of_lt (show i < va.length by omega)
    refine St.skip ?_
    refine St.then_normal ?_
    refine St.seq ?_
    refine St.block ?_
    refine St.rg ?_
    refine St.ev _ (Ev.move (Opd.mk rfl)) rfl ?_
    refine St.ev _ (Ev.move (Opd.mk rfl)) rfl ?_
    refine St.ev _ (Ev.move (Opd.mk rfl)) rfl ?_
    refine St.ev _ (Ev.idxaddr (k := i) (Opd.mk rfl) (Opd.mk rfl) Tryz.underlying22 sz23 (by omega) (by omega)) rfl ?_
    refine St.ev _ (Ev.ld1 (Opd.mk rfl) hu Tryz.underlying23 trivial rfl) rfl ?_
    refine St.buildSl (xs := [(Operand.tmp 41)]) (ps := [(0, (Operand.tmp 41))]) rfl (Opds.cons (Opd.mk rfl) Opds.nil) Tryz.underlying22 sz23 zv23 rfl rfl (by simp [J.cells_one u.2]) rfl rfl (fun b42 => ?_)
    refine St.appendRow (Opd.mk rfl) (Opd.mk rfl) Tryz.underlying22 sz23 zv23 by23 (by simp [J.cells_one u.2, u.2]) (by omega) (by omega) rfl rfl rfl rfl (fun v43 hv43 => ?_)
    refine St.rowEqN v43 (show _ = (va.take (i + 1)).length by rw [take_of_some hu]; exact len_snoc) (show _ = rows valR (va.take (i + 1)) by rw [take_of_some hu, rows_snoc]; simp only [List.flatMap_cons, List.flatMap_nil, J.cells_one u.2]; rfl) ?_
    refine St.ev _ (Ev.assign (Opd.mk rfl)) rfl ?_
    refine St.nil ?_
    refine St.in_normal ?_
    refine St.then_normal ?_
    refine St.rg ?_
    refine St.ev _ (Ev.move (Opd.mk rfl)) rfl ?_
    refine St.ev _ (Ev.add (Opd.mk rfl) (Opd.mk rfl) (by omega)) rfl ?_
    refine St.ev _ (Ev.assign (Opd.mk rfl)) rfl ?_
    refine St.nil ?_
    refine St.then_normal ?_
    refine St.againH2 (i + 1) v43 (by omega) (by first | omega | (dsimp only; omega)) (by repeat (first | exact Sub.nil | refine Sub.cons (by first | rfl | exact congrArg (fun z => some (iv z)) (by first | omega | (dsimp only; omega)) | exact congrArg (fun z => some (Value.bool z)) (by first | assumption | exact Eq.symm (by assumption))) ?_)) (fun _ hw => hw.sub)
  · skip
    try simp only [Bool.and_true, Bool.true_and, decide_eq_true_eq, decide_eq_false_iff_not, Bool.and_eq_true, Bool.or_eq_true, Bool.and_eq_false_iff, Bool.or_eq_false_iff, Bool.not_eq_true', Bool.not_eq_false', beq_iff_eq, beq_eq_false_iff_ne, Int.not_lt, Int.not_le] at h34
    obtain rfl : i = a.length := by omega
    rw [show va.take a.length = va from List.take_of_length_le (by omega)]
    refine St.exit ?_
    refine St.then_exit ?_
    refine St.then_exit ?_
    refine St.in_hit ?_
    refine St.then_normal ?_
    refine St.seq ?_
    refine St.seq ?_
    refine St.rg ?_
    refine St.ev _ (Ev.assign (Opd.mk rfl)) rfl ?_
    refine St.nil ?_
    refine St.then_normal ?_
    refine St.block ?_
    refine St.rowEqN z (show _ = (va ++ vb.take 0).length by simp) (show _ = rows valR (va ++ vb.take 0) by simp) ?_
    refine St.loopH2 (ι := Nat) (κ := Value) (fun i z2 T => (11, iv i) :: (9, z2) :: T) (fun i z2 => [row z2 23 1 (va ++ vb.take i).length (rows valR (va ++ vb.take i)), dat (sl valR v0 va), dat (ptw strR va a), dat (sl valR v1 vb), dat (ptw strR vb b), dat (nsl strR v0 a), dat (nsl strR v1 b), dat (sl strR v2 p), dat u8]) (fun i z2 => i ≤ b.length) (fun i z2 => b.length - i) 0 z (Keep.cons 0 rfl (Keep.cons 1 rfl (Keep.cons 2 rfl (Keep.cons 3 rfl (Keep.cons 8 rfl Keep.nil))))) (Nat.zero_le _) (by repeat (first | exact Sub.nil | refine Sub.cons (by first | rfl | exact congrArg (fun z => some (iv z)) (by first | omega | (dsimp only; omega)) | exact congrArg (fun z => some (Value.bool z)) (by first | assumption | exact Eq.symm (by assumption))) ?_)) (fun _ hw => hw.sub) ?_
    intro i z2 hi2
    have hil2 : (va ++ vb.take i).length ≤ 2097152 := by rw [List.length_append, List.length_take]; omega
    refine St.seq ?_
    refine St.seq ?_
    refine St.rg ?_
    refine St.ev _ (Ev.move (Opd.mk rfl)) rfl ?_
    refine St.ev _ (Ev.move (Opd.mk rfl)) rfl ?_
    refine St.ev _ (Ev.lensl (Opd.mk rfl) Tryz.underlying22) rfl ?_
    refine St.ev _ (Ev.lss (Opd.mk rfl) (Opd.mk rfl)) rfl ?_
    refine St.nil ?_
    refine St.then_normal ?_
    refine St.cond _ rfl (fun h47 => ?_) (fun h47 => ?_)
    · skip
      try simp only [Bool.and_true, Bool.true_and, decide_eq_true_eq, decide_eq_false_iff_not, Bool.and_eq_true, Bool.or_eq_true, Bool.and_eq_false_iff, Bool.or_eq_false_iff, Bool.not_eq_true', Bool.not_eq_false', beq_iff_eq, beq_eq_false_iff_ne, Int.not_lt, Int.not_le] at h47
      obtain ⟨u, hu⟩ := some_of_lt (show i < vb.length by omega)
      refine St.skip ?_
      refine St.then_normal ?_
      refine St.seq ?_
      refine St.block ?_
      refine St.rg ?_
      refine St.ev _ (Ev.move (Opd.mk rfl)) rfl ?_
      refine St.ev _ (Ev.move (Opd.mk rfl)) rfl ?_
      refine St.ev _ (Ev.move (Opd.mk rfl)) rfl ?_
      refine St.ev _ (Ev.idxaddr (k := i) (Opd.mk rfl) (Opd.mk rfl) Tryz.underlying22 sz23 (by omega) (by omega)) rfl ?_
      refine St.ev _ (Ev.ld1 (Opd.mk rfl) hu Tryz.underlying23 trivial rfl) rfl ?_
      refine St.buildSl (xs := [(Operand.tmp 54)]) (ps := [(0, (Operand.tmp 54))]) rfl (Opds.cons (Opd.mk rfl) Opds.nil) Tryz.underlying22 sz23 zv23 rfl rfl (by simp [J.cells_one u.2]) rfl rfl (fun b55 => ?_)
      refine St.appendRow (Opd.mk rfl) (Opd.mk rfl) Tryz.underlying22 sz23 zv23 by23 (by simp [J.cells_one u.2, u.2]) (by omega) (by omega) rfl rfl rfl rfl (fun v56 hv56 => ?_)
      refine St.rowEqN v56 (show _ = (va ++ vb.take (i + 1)).length by rw [take_of_some hu, ← List.append_assoc]; exact len_snoc) (show _ = rows valR (va ++ vb.take (i + 1)) by rw [take_of_some hu, ← List.append_assoc, rows_snoc]; simp only [List.flatMap_cons, List.flatMap_nil, J.cells_one u.2]; rfl) ?_
      refine St.ev _ (Ev.assign (Opd.mk rfl)) rfl ?_
      refine St.nil ?_
      refine St.in_normal ?_
      refine St.then_normal ?_
      refine St.rg ?_
      refine St.ev _ (Ev.move (Opd.mk rfl)) rfl ?_
      refine St.ev _ (Ev.add (Opd.mk rfl) (Opd.mk rfl) (by omega)) rfl ?_
      refine St.ev _ (Ev.assign (Opd.mk rfl)) rfl ?_
      refine St.nil ?_
      refine St.then_normal ?_
      refine St.againH2 (i + 1) v56 (by omega) (by first | omega | (dsimp only; omega)) (by repeat (first | exact Sub.nil | refine Sub.cons (by first | rfl | exact congrArg (fun z => some (iv z)) (by first | omega | (dsimp only; omega)) | exact congrArg (fun z => some (Value.bool z)) (by first | assumption | exact Eq.symm (by assumption))) ?_)) (fun _ hw => hw.sub)
    · skip
      try simp only [Bool.and_true, Bool.true_and, decide_eq_true_eq, decide_eq_false_iff_not, Bool.and_eq_true, Bool.or_eq_true, Bool.and_eq_false_iff, Bool.or_eq_false_iff, Bool.not_eq_true', Bool.not_eq_false', beq_iff_eq, beq_eq_false_iff_ne, Int.not_lt, Int.not_le] at h47
      obtain rfl : i = b.length := by omega
      rw [show vb.take b.length = vb from List.take_of_length_le (by omega)]
      refine St.publish z2 valR (va ++ vb) rfl rfl (fun _ _ => trivial) ?_
      refine St.ptwApp va vb hva ?_
      refine St.mkNs (Rr := strR) (l := a ++ b) z2 (vs := va ++ vb) (by rw [List.length_append, List.length_append, hva, hvb]) ?_
      refine St.exit ?_
      refine St.then_exit ?_
      refine St.then_exit ?_
      refine St.in_hit ?_
      refine St.then_normal ?_
      refine St.seq ?_
      refine St.rg ?_
      refine St.ev _ (Ev.move (Opd.mk rfl)) rfl ?_
      refine St.calldW hdr (Build_cspec v0 a) cb11 (Opds.cons (Opd.mk rfl) Opds.nil) rfl ?_
      rintro v59 _ ⟨xl, xw, xp, xo, xz, rfl, o1, o2, o3, o4, o5, rfl⟩
      refine St.app1 ?_
      refine St.ev _ (Ev.move (Opd.mk rfl)) rfl ?_
      refine St.ev _ (Ev.extract (Opd.mk rfl) rfl) rfl ?_
      refine St.ev _ (Ev.extract (Opd.mk rfl) rfl) rfl ?_
      refine St.alloc zc28 rfl (fun b12 => ?_)
      refine St.alloc zc30 rfl (fun b13 => ?_)
      refine St.storeA (Opd.mk rfl) (Opd.mk rfl) sz28 (by first | simp only [List.length_cons, List.length_nil] | rfl) (by simp [o1, o2, o3, o4, o5]) ?_
      refine St.storeA (Opd.mk rfl) (Opd.mk rfl) sz30 (by first | simp only [List.length_cons, List.length_nil] | rfl) rfl ?_
      refine St.nil ?_
      refine St.then_normal ?_
      refine St.seq ?_
      refine St.rg ?_
      refine St.ev _ (Ev.move (Opd.mk rfl)) rfl ?_
      refine St.calldW hdr (Build_cspec v1 b) cb11 (Opds.cons (Opd.mk rfl) Opds.nil) rfl ?_
      rintro v64 _ ⟨yl, yw, yp, yo, yz, rfl, q1, q2, q3, q4, q5, rfl⟩
      refine St.app1 ?_
      refine St.ev _ (Ev.move (Opd.mk rfl)) rfl ?_
      refine St.ev _ (Ev.extract (Opd.mk rfl) rfl) rfl ?_
      refine St.ev _ (Ev.extract (Opd.mk rfl) rfl) rfl ?_
      refine St.alloc zc28 rfl (fun b14 => ?_)
      refine St.alloc zc30 rfl (fun b15 => ?_)
      refine St.storeA (Opd.mk rfl) (Opd.mk rfl) sz28 (by first | simp only [List.length_cons, List.length_nil] | rfl) (by simp [q1, q2, q3, q4, q5]) ?_
      refine St.storeA (Opd.mk rfl) (Opd.mk rfl) sz30 (by first | simp only [List.length_cons, List.length_nil] | rfl) rfl ?_
      refine St.nil ?_
      refine St.then_normal ?_
      refine St.seq ?_
      refine St.rg ?_
      refine St.ev _ (Ev.move (Opd.mk rfl)) rfl ?_
      refine St.calldW hdr (Build_cspec z2 (a ++ b)) cb11 (Opds.cons (Opd.mk rfl) Opds.nil) rfl ?_
      rintro v69 _ ⟨zl, zw, zp, zo, zz, rfl, r1, r2, r3, r4, r5, rfl⟩
      refine St.app1 ?_
      refine St.ev _ (Ev.move (Opd.mk rfl)) rfl ?_
      refine St.ev _ (Ev.extract (Opd.mk rfl) rfl) rfl ?_
      refine St.ev _ (Ev.extract (Opd.mk rfl) rfl) rfl ?_
      refine St.alloc zc28 rfl (fun b16 => ?_)
      refine St.alloc zc30 rfl (fun b17 => ?_)
      refine St.storeA (Opd.mk rfl) (Opd.mk rfl) sz28 (by first | simp only [List.length_cons, List.length_nil] | rfl) (by simp [r1, r2, r3, r4, r5]) ?_
      refine St.storeA (Opd.mk rfl) (Opd.mk rfl) sz30 (by first | simp only [List.length_cons, List.length_nil] | rfl) rfl ?_
      refine St.nil ?_
      refine St.then_normal ?_
      refine St.seq ?_
      refine St.seq ?_
      refine St.rg ?_
      refine St.ev _ (Ev.fldb0 (Opd.mk rfl) fo30_0) rfl ?_
      refine St.ev _ (Ev.ldb (Opd.mk rfl) Tryz.underlying3 trivial (by rfl)) rfl ?_
      refine St.ev _ (Ev.neq (Opd.mk rfl) (Opd.mk rfl)) rfl ?_
      refine St.ev _ (Ev.move (Opd.mk rfl)) rfl ?_
      refine St.gf _ rfl rfl (fun hg => Ev.fldb0 (Opd.mk rfl) fo30_0) rfl ?_
      refine St.gf _ rfl rfl (fun hg => Ev.ldb (Opd.gv rfl hg) Tryz.underlying3 trivial (by rfl)) rfl ?_
      refine St.gf _ rfl rfl (fun hg => Ev.neq (Opd.gv rfl hg) (Opd.mk rfl)) rfl ?_
      refine St.ev _ (Ev.or (Opd.mk rfl) (fun hp => Opd.gv rfl hp)) rfl ?_
      refine St.ev _ (Ev.move (Opd.mk rfl)) rfl ?_
      refine St.gf _ rfl rfl (fun hg => Ev.fldb0 (Opd.mk rfl) fo30_0) rfl ?_
      refine St.gf _ rfl rfl (fun hg => Ev.ldb (Opd.gv rfl hg) Tryz.underlying3 trivial (by rfl)) rfl ?_
      refine St.gf _ rfl rfl (fun hg => Ev.neq (Opd.gv rfl hg) (Opd.mk rfl)) rfl ?_
      refine St.ev _ (Ev.or (Opd.mk rfl) (fun hp => Opd.gv rfl hp)) rfl ?_
      refine St.nil ?_
      refine St.then_normal ?_
      refine St.cond _ rfl (fun h84 => ?_) (fun h84 => ?_)
      · skip
        try simp only [Bool.and_true, Bool.true_and, decide_eq_true_eq, decide_eq_false_iff_not, Bool.and_eq_true, Bool.or_eq_true, Bool.and_eq_false_iff, Bool.or_eq_false_iff, Bool.not_eq_true', Bool.not_eq_false', beq_iff_eq, beq_eq_false_iff_ne, Int.not_lt, Int.not_le] at h84
        refine St.seq ?_
        refine St.rg ?_
        refine St.ev _ (Ev.assign (Opd.mk rfl)) rfl ?_
        refine St.nil ?_
        refine St.then_normal ?_
        refine St.rett ?_
        refine St.then_ret ?_
        refine St.rets [_] [] Tryz.results4 ⟨rfl, trivial⟩ ?_ (fun _ hw => hw.sub)
        exact be rfl
      · skip
        try simp only [Bool.and_true, Bool.true_and, decide_eq_true_eq, decide_eq_false_iff_not, Bool.and_eq_true, Bool.or_eq_true, Bool.and_eq_false_iff, Bool.or_eq_false_iff, Bool.not_eq_true', Bool.not_eq_false', beq_iff_eq, beq_eq_false_iff_ne, Int.not_lt, Int.not_le] at h84
        obtain ⟨hca, hcb, hcz⟩ : (conF a).1 = 0 ∧ (conF b).1 = 0 ∧ (conF (a ++ b)).1 = 0 := by refine ⟨?_, ?_, ?_⟩ <;> omega
        have hA := (conF_ok hca).2
        have hB := (conF_ok hcb).2
        have hZ := (conF_ok hcz).2
        rw [okL_t hca, okL_t hcb, okL_t hcz]
        have ha100 := hA.len
        have hb100 := hB.len
        refine St.skip ?_
        refine St.then_normal ?_
        refine St.seq ?_
        refine St.rg ?_
        refine St.ev _ (Ev.ldbA (Opd.mk rfl) Tryz.underlying28 trivial (by exact sz28)) rfl ?_
        refine St.ev _ (Ev.move (Opd.mk rfl)) rfl ?_
        refine St.ev _ (Ev.move (Opd.mk rfl)) rfl ?_
        refine St.calldW hdr (Hits_spec xl xw xp xo xz v2 a p w hA) cb14 (Opds.cons (Opd.mk rfl) (Opds.cons (Opd.mk rfl) (Opds.cons (Opd.mk rfl) Opds.nil))) rfl ?_
        rintro v89 _ ⟨ux, rfl, hux, rfl⟩
        refine St.app1 ?_
        refine St.ev _ (Ev.move (Opd.mk rfl)) rfl ?_
        refine St.ev _ (Ev.extract (Opd.mk rfl) rfl) rfl ?_
        refine St.ev _ (Ev.extract (Opd.mk rfl) rfl) rfl ?_
        refine St.alloc zc30 rfl (fun b19 => ?_)
        refine St.ev _ (Ev.assign (Opd.mk rfl)) rfl ?_
        refine St.storeA (Opd.mk rfl) (Opd.mk rfl) sz30 (by first | simp only [List.length_cons, List.length_nil] | rfl) rfl ?_
        refine St.nil ?_
        refine St.then_normal ?_
        refine St.seq ?_
        refine St.rg ?_
        refine St.ev _ (Ev.ldbA (Opd.mk rfl) Tryz.underlying28 trivial (by exact sz28)) rfl ?_
        refine St.ev _ (Ev.move (Opd.mk rfl)) rfl ?_
        refine St.ev _ (Ev.move (Opd.mk rfl)) rfl ?_
        refine St.calldW hdr (Hits_spec yl yw yp yo yz v2 b p w hB) cb14 (Opds.cons (Opd.mk rfl) (Opds.cons (Opd.mk rfl) (Opds.cons (Opd.mk rfl) Opds.nil))) rfl ?_
        rintro v96 _ ⟨uy, rfl, huy, rfl⟩
        refine St.app1 ?_
        refine St.ev _ (Ev.move (Opd.mk rfl)) rfl ?_
        refine St.ev _ (Ev.extract (Opd.mk rfl) rfl) rfl ?_
        refine St.ev _ (Ev.extract (Opd.mk rfl) rfl) rfl ?_
        refine St.alloc zc30 rfl (fun b21 => ?_)
        refine St.ev _ (Ev.assign (Opd.mk rfl)) rfl ?_
        refine St.storeA (Opd.mk rfl) (Opd.mk rfl) sz30 (by first | simp only [List.length_cons, List.length_nil] | rfl) rfl ?_
        refine St.nil ?_
        refine St.then_normal ?_
        refine St.seq ?_
        refine St.rg ?_
        refine St.ev _ (Ev.ldbA (Opd.mk rfl) Tryz.underlying28 trivial (by exact sz28)) rfl ?_
        refine St.ev _ (Ev.move (Opd.mk rfl)) rfl ?_
        refine St.ev _ (Ev.move (Opd.mk rfl)) rfl ?_
        refine St.calldW hdr (Hits_spec zl zw zp zo zz v2 (a ++ b) p w hZ) cb14 (Opds.cons (Opd.mk rfl) (Opds.cons (Opd.mk rfl) (Opds.cons (Opd.mk rfl) Opds.nil))) rfl ?_
        rintro v103 _ ⟨uz, rfl, huz, rfl⟩
        refine St.app1 ?_
        refine St.ev _ (Ev.move (Opd.mk rfl)) rfl ?_
        refine St.ev _ (Ev.extract (Opd.mk rfl) rfl) rfl ?_
        refine St.ev _ (Ev.extract (Opd.mk rfl) rfl) rfl ?_
        refine St.alloc zc30 rfl (fun b23 => ?_)
        refine St.ev _ (Ev.assign (Opd.mk rfl)) rfl ?_
        refine St.storeA (Opd.mk rfl) (Opd.mk rfl) sz30 (by first | simp only [List.length_cons, List.length_nil] | rfl) rfl ?_
        refine St.nil ?_
        refine St.then_normal ?_
        refine St.seq ?_
        refine St.seq ?_
        refine St.rg ?_
        refine St.ev _ (Ev.fldb0 (Opd.mk rfl) fo30_0) rfl ?_
        refine St.ev _ (Ev.ldb (Opd.mk rfl) Tryz.underlying3 trivial (by rfl)) rfl ?_
        refine St.ev _ (Ev.neq (Opd.mk rfl) (Opd.mk rfl)) rfl ?_
        refine St.nil ?_
        refine St.then_normal ?_
        refine St.cond _ rfl (fun h108 => ?_) (fun h108 => ?_)
        · skip
          try simp only [Bool.and_true, Bool.true_and, decide_eq_true_eq, decide_eq_false_iff_not, Bool.and_eq_true, Bool.or_eq_true, Bool.and_eq_false_iff, Bool.or_eq_false_iff, Bool.not_eq_true', Bool.not_eq_false', beq_iff_eq, beq_eq_false_iff_ne, Int.not_lt, Int.not_le] at h108
          refine St.seq ?_
          refine St.rg ?_
          refine St.ev _ (Ev.ldbA (Opd.mk rfl) Tryz.underlying30 trivial (by exact sz30)) rfl ?_
          refine St.ev _ (Ev.ldbA (Opd.mk rfl) Tryz.underlying30 trivial (by exact sz30)) rfl ?_
          refine St.ev _ (Ev.structeql (Opd.mk rfl) (Opd.mk rfl) Tryz.eqGuardType30 (fun w => eqf30 _ _ _ _ w)) rfl ?_
          refine St.ev _ (Ev.move (Opd.mk rfl)) rfl ?_
          refine St.gt _ rfl rfl (fun hg => Ev.ldbA (Opd.mk rfl) Tryz.underlying30 trivial (by exact sz30)) rfl ?_
          refine St.gt _ rfl rfl (fun hg => Ev.ldbA (Opd.mk rfl) Tryz.underlying30 trivial (by exact sz30)) rfl ?_
          refine St.gt _ rfl rfl (fun hg => Ev.structeql (Opd.gv rfl hg) (Opd.gv rfl hg) Tryz.eqGuardType30 (fun w => eqf30 _ _ _ _ w)) rfl ?_
          refine St.ev _ (Ev.and (Opd.mk rfl) (fun hp => Opd.gv rfl hp)) rfl ?_
          refine St.ev _ (Ev.assign (Opd.mk rfl)) rfl ?_
          refine St.nil ?_
          refine St.then_normal ?_
          refine St.rett ?_
          refine St.then_ret ?_
          refine St.rets [_] [] Tryz.results4 ⟨rfl, trivial⟩ ?_ (fun _ hw => hw.sub)
          exact be (by simp)
        · skip
          try simp only [Bool.and_true, Bool.true_and, decide_eq_true_eq, decide_eq_false_iff_not, Bool.and_eq_true, Bool.or_eq_true, Bool.and_eq_false_iff, Bool.or_eq_false_iff, Bool.not_eq_true', Bool.not_eq_false', beq_iff_eq, beq_eq_false_iff_ne, Int.not_lt, Int.not_le] at h108
          have hz0 : (hitF p w).1 = 0 := by omega
          rw [hitL_t (l := a) hz0, hitL_t (l := b) hz0, hitL_t (l := a ++ b) hz0]
          refine St.openH ux (hitsW a p w.toNat) (fun ua hua => ?_)
          refine St.openH uy (hitsW b p w.toNat) (fun ub hub => ?_)
          have hza := zip_len hua
          have hzb := zip_len hub
          have hwa := hw_len a p w.toNat
          have hwb := hw_len b p w.toNat
          have hha := hits_len hA p
          have hhb := hits_len hB p
          refine St.skip ?_
          refine St.then_normal ?_
          refine St.seq ?_
          refine St.rg ?_
          refine St.buildSl (xs := []) (ps := []) rfl (Opds.nil) Tryz.underlying36 sz44 zv44 rfl rfl (by simp [Value.cells]) rfl rfl (fun b117 => ?_)
          refine St.ev _ (Ev.assign (Opd.mk rfl)) rfl ?_
          refine St.nil ?_
          refine St.then_normal ?_
          refine St.seq ?_
          refine St.seq ?_
          refine St.rg ?_
          refine St.ev _ (Ev.assign (Opd.mk rfl)) rfl ?_
          refine St.nil ?_
          refine St.then_normal ?_
          refine St.block ?_
          refine St.rowEqN (.slice (some ⟨b117, 0, none⟩) 0 0) (show _ = ((List.zipWith hdR (hitsW a p w.toNat) ua).take 0).length from rfl) (show _ = rows hR4 ((List.zipWith hdR (hitsW a p w.toNat) ua).take 0) from rfl) ?_
          refine St.loopH2 (ι := Nat) (κ := Value) (fun k z3 T => (25, iv k) :: (24, z3) :: T) (fun k z3 => [row z3 44 4 ((List.zipWith hdR (hitsW a p w.toNat) ua).take k).length (rows hR4 ((List.zipWith hdR (hitsW a p w.toNat) ua).take k)), dat (sl hR4 ux (List.zipWith hdR (hitsW a p w.toNat) ua)), dat (sl hR4 uy (List.zipWith hdR (hitsW b p w.toNat) ub)), dat (ptw strR (ua.map Prod.fst) ((hitsW a p w.toNat).map Hd.l)), dat (ptw strR (ua.map Prod.snd) ((hitsW a p w.toNat).map Hd.r)), dat (ptw strR (ub.map Prod.fst) ((hitsW b p w.toNat).map Hd.l)), dat (ptw strR (ub.map Prod.snd) ((hitsW b p w.toNat).map Hd.r)), dat (hsl uz (hitsW (a ++ b) p w.toNat)), blk b21 (.cells [iv (hitF p w).1, iv (hitF p w).2].toArray 30 (0, 0)), blk b23 (.cells [iv (hitF p w).1, iv (hitF p w).2].toArray 30 (0, 0)), dat (sl valR v0 va)]) (fun k z3 => k ≤ (hitsOf a p).length) (fun k z3 => (hitsOf a p).length - k) 0 (.slice (some ⟨b117, 0, none⟩) 0 0) (Keep.cons 0 rfl (Keep.cons 8 rfl (Keep.cons 18 rfl (Keep.cons 20 rfl (Keep.cons 21 rfl (Keep.cons 22 rfl (Keep.cons 23 rfl Keep.nil))))))) (Nat.zero_le _) (by repeat (first | exact Sub.nil | refine Sub.cons (by first | rfl | exact congrArg (fun z => some (iv z)) (by first | omega | (dsimp only; omega)) | exact congrArg (fun z => some (Value.bool z)) (by first | assumption | exact Eq.symm (by assumption))) ?_)) (fun _ hw => hw.sub) ?_
          intro k z3 hk
          have hkl : ((List.zipWith hdR (hitsW a p w.toNat) ua).take k).length ≤ 1300 := by rw [List.length_take]; omega
          refine St.seq ?_
          refine St.seq ?_
          refine St.rg ?_
          refine St.ev _ (Ev.move (Opd.mk rfl)) rfl ?_
          refine St.ev _ (Ev.move (Opd.mk rfl)) rfl ?_
          refine St.ev _ (Ev.lensl (Opd.mk rfl) Tryz.underlying36) rfl ?_
          refine St.ev _ (Ev.lss (Opd.mk rfl) (Opd.mk rfl)) rfl ?_
          refine St.nil ?_
          refine St.then_normal ?_
          refine St.cond _ rfl (fun h121 => ?_) (fun h121 => ?_)
          · skip
            try simp only [Bool.and_true, Bool.true_and, decide_eq_true_eq, decide_eq_false_iff_not, Bool.and_eq_true, Bool.or_eq_true, Bool.and_eq_false_iff, Bool.or_eq_false_iff, Bool.not_eq_true', Bool.not_eq_false', beq_iff_eq, beq_eq_false_iff_ne, Int.not_lt, Int.not_le] at h121
            obtain ⟨x, hx⟩ := some_of_lt (show k < (hitsW a p w.toNat).length by omega)
            obtain ⟨u, hu⟩ := some_of_lt (show k < ua.length by omega)
            have hX := zip_get hx hu
            refine St.skip ?_
            refine St.then_normal ?_
            refine St.seq ?_
            refine St.block ?_
            refine St.rg ?_
            refine St.ev _ (Ev.move (Opd.mk rfl)) rfl ?_
            refine St.ev _ (Ev.move (Opd.mk rfl)) rfl ?_
            refine St.ev _ (Ev.move (Opd.mk rfl)) rfl ?_
            refine St.ev _ (Ev.idxaddr (k := k) (Opd.mk rfl) (Opd.mk rfl) Tryz.underlying36 sz44 (by omega) (by omega)) rfl ?_
            refine St.ev _ (Ev.ldA (Opd.mk rfl) hX Tryz.underlying44 trivial sz44 Cel.eq) rfl ?_
            refine St.buildSl (xs := [(Operand.tmp 128)]) (ps := [(0, (Operand.tmp 128))]) rfl (Opds.cons (Opd.mk rfl) Opds.nil) Tryz.underlying36 sz44 zv44 rfl rfl (by simp [Value.cells]) rfl rfl (fun b129 => ?_)
            refine St.appendRow (Opd.mk rfl) (Opd.mk rfl) Tryz.underlying36 sz44 zv44 by44 (by intro y hy; simp [Value.cells] at hy; rcases hy with rfl | rfl | rfl | rfl; rfl; rfl; exact u.1.2; exact u.2.2) (by omega) (by omega) rfl rfl rfl rfl (fun v130 hv130 => ?_)
            refine St.rowEqN v130 (show _ = ((List.zipWith hdR (hitsW a p w.toNat) ua).take (k + 1)).length by rw [take_of_some hX]; exact len_snoc) (show _ = rows hR4 ((List.zipWith hdR (hitsW a p w.toNat) ua).take (k + 1)) by rw [take_of_some hX, rows_snoc]; rfl) ?_
            refine St.ev _ (Ev.assign (Opd.mk rfl)) rfl ?_
            refine St.nil ?_
            refine St.in_normal ?_
            refine St.then_normal ?_
            refine St.rg ?_
            refine St.ev _ (Ev.move (Opd.mk rfl)) rfl ?_
            refine St.ev _ (Ev.add (Opd.mk rfl) (Opd.mk rfl) (by omega)) rfl ?_
            refine St.ev _ (Ev.assign (Opd.mk rfl)) rfl ?_
            refine St.nil ?_
            refine St.then_normal ?_
            refine St.againH2 (k + 1) v130 (by omega) (by first | omega | (dsimp only; omega)) (by repeat (first | exact Sub.nil | refine Sub.cons (by first | rfl | exact congrArg (fun z => some (iv z)) (by first | omega | (dsimp only; omega)) | exact congrArg (fun z => some (Value.bool z)) (by first | assumption | exact Eq.symm (by assumption))) ?_)) (fun _ hw => hw.sub)
          · skip
            try simp only [Bool.and_true, Bool.true_and, decide_eq_true_eq, decide_eq_false_iff_not, Bool.and_eq_true, Bool.or_eq_true, Bool.and_eq_false_iff, Bool.or_eq_false_iff, Bool.not_eq_true', Bool.not_eq_false', beq_iff_eq, beq_eq_false_iff_ne, Int.not_lt, Int.not_le] at h121
            rw [show (List.zipWith hdR (hitsW a p w.toNat) ua).take k = (List.zipWith hdR (hitsW a p w.toNat) ua) from List.take_of_length_le (by omega)]
            refine St.exit ?_
            refine St.then_exit ?_
            refine St.then_exit ?_
            refine St.in_hit ?_
            refine St.then_normal ?_
            refine St.seq ?_
            refine St.seq ?_
            refine St.rg ?_
            refine St.ev _ (Ev.assign (Opd.mk rfl)) rfl ?_
            refine St.nil ?_
            refine St.then_normal ?_
            refine St.block ?_
            refine St.rowEqN z3 (show _ = ((List.zipWith hdR (hitsW a p w.toNat) ua) ++ ((List.zipWith hdR (hitsW b p w.toNat) ub).map (shT a.length)).take 0).length by simp) (show _ = rows hR4 ((List.zipWith hdR (hitsW a p w.toNat) ua) ++ ((List.zipWith hdR (hitsW b p w.toNat) ub).map (shT a.length)).take 0) by simp) ?_
            refine St.loopH2 (ι := Nat) (κ := Value) (fun k z4 T => (26, iv k) :: (24, z4) :: T) (fun k z4 => [row z4 44 4 ((List.zipWith hdR (hitsW a p w.toNat) ua) ++ ((List.zipWith hdR (hitsW b p w.toNat) ub).map (shT a.length)).take k).length (rows hR4 ((List.zipWith hdR (hitsW a p w.toNat) ua) ++ ((List.zipWith hdR (hitsW b p w.toNat) ub).map (shT a.length)).take k)), dat (sl hR4 ux (List.zipWith hdR (hitsW a p w.toNat) ua)), dat (sl hR4 uy (List.zipWith hdR (hitsW b p w.toNat) ub)), dat (ptw strR (ua.map Prod.fst) ((hitsW a p w.toNat).map Hd.l)), dat (ptw strR (ua.map Prod.snd) ((hitsW a p w.toNat).map Hd.r)), dat (ptw strR (ub.map Prod.fst) ((hitsW b p w.toNat).map Hd.l)), dat (ptw strR (ub.map Prod.snd) ((hitsW b p w.toNat).map Hd.r)), dat (hsl uz (hitsW (a ++ b) p w.toNat)), blk b21 (.cells [iv (hitF p w).1, iv (hitF p w).2].toArray 30 (0, 0)), blk b23 (.cells [iv (hitF p w).1, iv (hitF p w).2].toArray 30 (0, 0)), dat (sl valR v0 va)]) (fun k z4 => k ≤ (hitsOf b p).length) (fun k z4 => (hitsOf b p).length - k) 0 z3 (Keep.cons 0 rfl (Keep.cons 8 rfl (Keep.cons 20 rfl (Keep.cons 21 rfl (Keep.cons 22 rfl (Keep.cons 23 rfl Keep.nil)))))) (Nat.zero_le _) (by repeat (first | exact Sub.nil | refine Sub.cons (by first | rfl | exact congrArg (fun z => some (iv z)) (by first | omega | (dsimp only; omega)) | exact congrArg (fun z => some (Value.bool z)) (by first | assumption | exact Eq.symm (by assumption))) ?_)) (fun _ hw => hw.sub) ?_
            intro k z4 hk4
            have hkl4 : ((List.zipWith hdR (hitsW a p w.toNat) ua) ++ ((List.zipWith hdR (hitsW b p w.toNat) ub).map (shT a.length)).take k).length ≤ 2600 := by rw [List.length_append, List.length_take]; omega
            refine St.seq ?_
            refine St.seq ?_
            refine St.rg ?_
            refine St.ev _ (Ev.move (Opd.mk rfl)) rfl ?_
            refine St.ev _ (Ev.move (Opd.mk rfl)) rfl ?_
            refine St.ev _ (Ev.lensl (Opd.mk rfl) Tryz.underlying36) rfl ?_
            refine St.ev _ (Ev.lss (Opd.mk rfl) (Opd.mk rfl)) rfl ?_
            refine St.nil ?_
            refine St.then_normal ?_
            refine St.cond _ rfl (fun h134 => ?_) (fun h134 => ?_)
            · skip
              try simp only [Bool.and_true, Bool.true_and, decide_eq_true_eq, decide_eq_false_iff_not, Bool.and_eq_true, Bool.or_eq_true, Bool.and_eq_false_iff, Bool.or_eq_false_iff, Bool.not_eq_true', Bool.not_eq_false', beq_iff_eq, beq_eq_false_iff_ne, Int.not_lt, Int.not_le] at h134
              obtain ⟨h, hh⟩ := some_of_lt (show k < (hitsOf b p).length by omega)
              obtain ⟨x, hxd, hx⟩ : ∃ x, x = mkH b p w.toNat h ∧ (hitsW b p w.toNat)[k]? = some x := ⟨_, rfl, by unfold hitsW; rw [List.getElem?_map, hh]; rfl⟩
              obtain ⟨u, hu⟩ := some_of_lt (show k < ub.length by omega)
              have hX := zip_get hx hu
              have hY : ((List.zipWith hdR (hitsW b p w.toNat) ub).map (shT a.length))[k]? = some (shT a.length (hdR x u)) := by rw [List.getElem?_map, hX]; rfl
              have hxq : (hdR x u).1 = x.s := rfl
              have hxs : x.s < 100 := by
                obtain ⟨s, hs, _⟩ := hitsOf_mem (List.mem_of_getElem? hh)
                have hlt := lt_of_some hs
                rw [hxd]; show h.1 < 100; omega
              refine St.skip ?_
              refine St.then_normal ?_
              refine St.seq ?_
              refine St.block ?_
              refine St.seq ?_
              refine St.rg ?_
              refine St.ev _ (Ev.move (Opd.mk rfl)) rfl ?_
              refine St.ev _ (Ev.move (Opd.mk rfl)) rfl ?_
              refine St.ev _ (Ev.idxaddr (k := k) (Opd.mk rfl) (Opd.mk rfl) Tryz.underlying36 sz44 (by omega) (by omega)) rfl ?_
              refine St.ev _ (Ev.ldA (Opd.mk rfl) hX Tryz.underlying44 trivial sz44 Cel.eq) rfl ?_
              refine St.alloc zc44 rfl (fun b27 => ?_)
              refine St.storeA (Opd.mk rfl) (Opd.mk rfl) sz44 (by first | simp only [List.length_cons, List.length_nil] | rfl) (by simp only [List.all_cons, List.all_nil, Bool.and_true, Bool.and_eq_true]; exact ⟨rfl, rfl, u.1.2, u.2.2⟩) ?_
              refine St.nil ?_
              refine St.then_normal ?_
              refine St.seq ?_
              refine St.rg ?_
              refine St.ev _ (Ev.fldb0 (Opd.mk rfl) fo44_0) rfl ?_
              refine St.ev _ (Ev.ldb (Opd.mk rfl) Tryz.underlying3 trivial (by rfl)) rfl ?_
              refine St.ev _ (Ev.move (Opd.mk rfl)) rfl ?_
              refine St.ev _ (Ev.lensl (Opd.mk rfl) Tryz.underlying22) rfl ?_
              refine St.ev _ (Ev.add (Opd.mk rfl) (Opd.mk rfl) (by omega)) rfl ?_
              refine St.slot 145 (iv ((x.s + a.length : Nat) : Int)) rfl (congrArg (fun z => iv z) (by omega)) ?_
              refine St.ev _ (Ev.fldb0 (Opd.mk rfl) fo44_0) rfl ?_
              refine St.store1 (Opd.mk rfl) (Opd.mk rfl) sz3 rfl (by rfl) ?_
              refine St.nil ?_
              refine St.then_normal ?_
              refine St.rg ?_
              refine St.ev _ (Ev.move (Opd.mk rfl)) rfl ?_
              refine St.ev _ (Ev.ldbA (Opd.mk rfl) Tryz.underlying44 trivial (by exact sz44)) rfl ?_
              refine St.buildSl (xs := [(Operand.tmp 148)]) (ps := [(0, (Operand.tmp 148))]) rfl (Opds.cons (Opd.mk rfl) Opds.nil) Tryz.underlying36 sz44 zv44 rfl rfl (by simp [Value.cells]) rfl rfl (fun b149 => ?_)
              refine St.appendRow (Opd.mk rfl) (Opd.mk rfl) Tryz.underlying36 sz44 zv44 by44 (by intro y hy; simp [Value.cells] at hy; rcases hy with rfl | rfl | rfl | rfl; rfl; rfl; exact u.1.2; exact u.2.2) (by omega) (by omega) rfl rfl rfl rfl (fun v150 hv150 => ?_)
              refine St.rowEqN v150 (show _ = ((List.zipWith hdR (hitsW a p w.toNat) ua) ++ ((List.zipWith hdR (hitsW b p w.toNat) ub).map (shT a.length)).take (k + 1)).length by rw [take_of_some hY, ← List.append_assoc]; exact len_snoc) (show _ = rows hR4 ((List.zipWith hdR (hitsW a p w.toNat) ua) ++ ((List.zipWith hdR (hitsW b p w.toNat) ub).map (shT a.length)).take (k + 1)) by rw [take_of_some hY, ← List.append_assoc, rows_snoc]; rfl) ?_
              refine St.ev _ (Ev.assign (Opd.mk rfl)) rfl ?_
              refine St.nil ?_
              refine St.in_normal ?_
              refine St.then_normal ?_
              refine St.rg ?_
              refine St.ev _ (Ev.move (Opd.mk rfl)) rfl ?_
              refine St.ev _ (Ev.add (Opd.mk rfl) (Opd.mk rfl) (by omega)) rfl ?_
              refine St.ev _ (Ev.assign (Opd.mk rfl)) rfl ?_
              refine St.nil ?_
              refine St.then_normal ?_
              refine St.againH2 (k + 1) v150 (by omega) (by first | omega | (dsimp only; omega)) (by repeat (first | exact Sub.nil | refine Sub.cons (by first | rfl | exact congrArg (fun z => some (iv z)) (by first | omega | (dsimp only; omega)) | exact congrArg (fun z => some (Value.bool z)) (by first | assumption | exact Eq.symm (by assumption))) ?_)) (fun _ hw => hw.sub)
            · skip
              try simp only [Bool.and_true, Bool.true_and, decide_eq_true_eq, decide_eq_false_iff_not, Bool.and_eq_true, Bool.or_eq_true, Bool.and_eq_false_iff, Bool.or_eq_false_iff, Bool.not_eq_true', Bool.not_eq_false', beq_iff_eq, beq_eq_false_iff_ne, Int.not_lt, Int.not_le] at h134
              rw [show ((List.zipWith hdR (hitsW b p w.toNat) ub).map (shT a.length)).take k = ((List.zipWith hdR (hitsW b p w.toNat) ub).map (shT a.length)) from List.take_of_length_le (by rw [List.length_map]; omega)]
              refine St.publish z4 hR4 ((List.zipWith hdR (hitsW a p w.toNat) ua) ++ ((List.zipWith hdR (hitsW b p w.toNat) ub).map (shT a.length))) rfl rfl (fun _ _ => trivial) ?_
              rw [zip_app hua a.length, ← hits_both]
              refine St.ptwApp (ua.map Prod.fst) (ub.map Prod.fst) (by rw [List.length_map, List.length_map, hua]) ?_
              refine St.ptwApp (ua.map Prod.snd) (ub.map Prod.snd) (by rw [List.length_map, List.length_map, hua]) ?_
              rw [both_l, both_r, ← List.map_append, ← List.map_append]
              refine St.mkH z4 (hitsW (a ++ b) p w.toNat) (ua ++ ub) (by rw [hits_both, List.length_append, List.length_append, List.length_map, hua, hub]) ?_
              refine St.exit ?_
              refine St.then_exit ?_
              refine St.then_exit ?_
              refine St.in_hit ?_
              refine St.then_normal ?_
              refine St.seq ?_
              refine St.rg ?_
              refine St.ev _ (Ev.fldb0 (Opd.mk rfl) fo30_0) rfl ?_
              refine St.ev _ (Ev.ldb (Opd.mk rfl) Tryz.underlying3 trivial (by rfl)) rfl ?_
              refine St.ev _ (Ev.eql (Opd.mk rfl) (Opd.mk rfl)) rfl ?_
              refine St.ev _ (Ev.move (Opd.mk rfl)) rfl ?_
              refine St.known 154 _ true rfl (decide_eq_true hz0) ?_
              refine St.takeg rfl rfl ?_
              refine St.ev _ (Ev.fldb0 (Opd.mk rfl) fo30_0) rfl ?_
              refine St.takeg rfl rfl ?_
              refine St.ev _ (Ev.ldb (Opd.mk rfl) Tryz.underlying3 trivial (by rfl)) rfl ?_
              refine St.takeg rfl rfl ?_
              refine St.ev _ (Ev.eql (Opd.mk rfl) (Opd.mk rfl)) rfl ?_
              refine St.ev _ (Ev.pickt (Opd.mk rfl) rfl (Opd.mk rfl)) rfl ?_
              refine St.ev _ (Ev.move (Opd.mk rfl)) rfl ?_
              refine St.known 159 _ true rfl (decide_eq_true hz0) ?_
              refine St.takeg rfl rfl ?_
              refine St.ev _ (Ev.move (Opd.mk rfl)) rfl ?_
              refine St.takeg rfl rfl ?_
              refine St.ev _ (Ev.move (Opd.mk rfl)) rfl ?_
              refine St.takeg rfl rfl ?_
              refine St.ev _ (Ev.call (sameHits_spec uz z4 (hitsW (a ++ b) p w.toNat) (hitsW (a ++ b) p w.toNat)) cb17 (Opds.cons (Opd.mk rfl) (Opds.cons (Opd.mk rfl) Opds.nil))) rfl ?_
              refine St.ev _ (Ev.pickt (Opd.mk rfl) rfl (Opd.mk rfl)) rfl ?_
              refine St.ev _ (Ev.assign (Opd.mk rfl)) rfl ?_
              refine St.nil ?_
              refine St.then_normal ?_
              refine St.rett ?_
              refine St.rets [_] [] Tryz.results4 ⟨rfl, trivial⟩ ?_ (fun _ hw => hw.sub)
              exact be (by simp)

end Go.Proofs.YtgikcbfdonjggaaGreatDoor
