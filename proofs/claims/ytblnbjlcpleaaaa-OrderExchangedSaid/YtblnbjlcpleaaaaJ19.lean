/-
  A part of a row of the call's own: its length, its places; its elements set to zero.
  Conditions: none; everything holds of any program.
-/
import Derived.Test.YtblnbjlcpleaaaaJ11
import Derived.Lib.SliceRun
namespace Go.J
open Go
section
variable {P : Program} {n : Nat} {F : Fr} {A : World → Prop} {c : Ctx} {H R : List Ent} {ty : TypeId} {x y z : Operand} {v : Value} {Q : Exit → Act → World → Prop} {ops : Array Oper} {rest : List Oper}
  {d : Nat} {pos : String} {after : Array Edge} {t e : TypeId} {size m : Nat} {cs : List Value}
/-- 'x[l:]' of a row of the call's own: the value -/
theorem Ev.slicerow_l {i : Int} {l : Nat} {ki : IntKind} {lo : Operand} [hr : InR v H e size m cs] (hx : Opd F x v) (hlo : Opd F lo (.int ki i)) (ht : P.underlying t = some (.slice e)) (hs : (P.info? e).map (·.size) = some size)
    (hi : i = l) (hl : l ≤ m) : Ev P n F (Mm c H) (.slice t x (some lo) none none) ty (slv v size l m) := .of_run fun a w ha hw => by
  obtain ⟨ρ, hm⟩ := hw.out
  obtain ⟨inf, hinf, hsz⟩ := Option.map_eq_some_iff.1 hs
  subst hi
  rcases (hm.row hr).2 with ⟨rfl, rfl⟩ | ⟨g, cap, cur, rfl, _, _, hc1, _⟩
  · have b2 : (0 : Int) ≤ (l : Int) ∧ (l : Int) ≤ ((0 : Nat) : Int) := by omega
    simp only [execOp, hx.eval ha, hlo.eval ha, Option.map_some, Option.map_none, Instr.sliceAt, Instr.slice, Instr.sliceBounds, Instr.sliceBound, asIntOf, Sem.run_bind, run_underlying ht, Result.andThen_ok, Sem.run_pure, b2, and_self, if_true, Int.toNat_natCast, sizeOf, typeInfo, run_program, hinf, hsz, slv_slice]
  · have b2 : (0 : Int) ≤ (l : Int) ∧ (l : Int) ≤ (m : Int) := by omega
    simp only [execOp, hx.eval ha, hlo.eval ha, Option.map_some, Option.map_none, Instr.sliceAt, Instr.slice, Instr.sliceBounds, Instr.sliceBound, asIntOf, Sem.run_bind, run_underlying ht, Result.andThen_ok, Sem.run_pure, b2, and_self, if_true, Int.toNat_natCast, sizeOf, typeInfo, run_program, hinf, hsz, slv_slice]
/-- how long a part of a row is -/
theorem Ev.lenslv {e' : TypeId} {l h : Nat} [hr : InR v H e size m cs] (hx : Opd F x (slv v size l h)) (ht : P.underlying t = some (.slice e')) :
    Ev P n F (Mm c H) (.call { callee := .builtin .len, args := #[x], argTypes := #[t] }) ty (iv ((h - l : Nat))) := .of_run fun a w ha hw => by
  obtain ⟨ρ, hm⟩ := hw.out
  rcases (hm.row hr).2 with ⟨rfl, rfl⟩ | ⟨g, cap, cur, rfl, _⟩
  · rw [slv_slice] at hx
    simp [execOp, resolve, invoke, builtin, hx.eval ha, Builtin.len_, run_underlying ht, goInt]
  · rw [slv_slice] at hx
    simp [execOp, resolve, invoke, builtin, hx.eval ha, Builtin.len_, run_underlying ht, goInt]
/-- a place of a part of a row -/
theorem Ev.idxaddrslv {i : Int} {kd : IntKind} {j l h : Nat} [hr : InR v H e size m cs] (hx : Opd F x (slv v size l h)) (hy : Opd F y (.int kd i)) (ht : P.underlying t = some (.slice e)) (hs : (P.info? e).map (·.size) = some size)
    (hi : i = j) (hj : l + j < h) (hh : h ≤ m) : Ev P n F (Mm c H) (.indexAddr t x y) ty (eptr v size (l + j) 0) := .of_run fun a w ha hw => by
  obtain ⟨ρ, hm⟩ := hw.out
  rcases (hm.row hr).2 with ⟨rfl, rfl⟩ | ⟨g, cap, cur, rfl, _, _, hc1, _⟩
  · omega
  · obtain ⟨inf, hinf, hsz⟩ := Option.map_eq_some_iff.1 hs
    subst hi
    have hk : j < h - l := by omega
    have hne : ¬ cap = l := by omega
    rw [slv_slice, if_neg hne] at hx
    simp only [Option.map_some, Addr.add_lit, Nat.zero_add] at hx
    simp [execOp, hx.eval ha, hy.eval ha, Instr.indexAt, asIntOf, run_underlying ht, sizeOf, typeInfo, hinf, hsz, hk, eptr_slice, Addr.add_lit, Nat.add_mul]
theorem take_mid {α : Type} {A B C : List α} {m : Nat} (h : A.length + B.length = m) : (A ++ B ++ C).take m = A ++ B := by
  rw [List.take_append_of_le_length (by rw [List.length_append]; omega), List.take_of_length_le (by rw [List.length_append]; omega)]
theorem setCells_heap (b : Nat) {e : TypeId} {fr : Nat × Nat} : ∀ (vs : List Value) (o : Nat) (w : World) (C : List Value), w.heap[b]? = some (.cells C.toArray e fr) → o + vs.length ≤ C.length →
    (w.setCells b o vs).heap[b]? = some (.cells (C.take o ++ vs ++ C.drop (o + vs.length)).toArray e fr) ∧ (w.setCells b o vs).heap.size = w.heap.size ∧ (∀ k, k ≠ b → (w.setCells b o vs).heap[k]? = w.heap[k]?) ∧
    (w.setCells b o vs).os = w.os ∧ (w.setCells b o vs).tape = w.tape ∧ (w.setCells b o vs).drawn = w.drawn ∧ (w.setCells b o vs).output = w.output
  | [], o, w, C, h, _ => by simp [World.setCells, h]
  | u :: vs, o, w, C, h, hl => by
    simp only [List.length_cons] at hl
    have h1 : (w.setCell ⟨b, o, none⟩ u).heap[b]? = some (.cells (C.set o u).toArray e fr) := by
      simp [World.setCell, Array.getElem?_modify, h]
    have h2 : ∀ k, k ≠ b → (w.setCell ⟨b, o, none⟩ u).heap[k]? = w.heap[k]? := by
      intro k hk
      simp only [World.setCell, Array.getElem?_modify]
      rw [if_neg (fun e => hk e.symm)]
    have ih := setCells_heap b vs (o + 1) (w.setCell ⟨b, o, none⟩ u) (C.set o u) h1 (by rw [List.length_set]; omega)
    rw [World.setCells]
    refine ⟨?_, by rw [ih.2.1]; simp [World.setCell], fun k hk => by rw [ih.2.2.1 k hk, h2 k hk], by rw [ih.2.2.2.1]; rfl, by rw [ih.2.2.2.2.1]; rfl, by rw [ih.2.2.2.2.2.1]; rfl, by rw [ih.2.2.2.2.2.2]; rfl⟩
    rw [ih.1]
    congr 2
    simp only [List.length_cons]
    rw [List.drop_set_of_lt (by omega), show o + 1 + vs.length = o + (vs.length + 1) by omega]
    have : (C.set o u).take (o + 1) = C.take o ++ [u] := by
      rw [List.take_succ_eq_append_getElem (by rw [List.length_set]; omega), List.take_set_of_le (Nat.le_refl _)]
      simp
    rw [this]
    simp
/-- 'clear(x[l:])' of a row of the call's own -/
theorem St.clearslv {zv : Value} {l : Nat} {R1 : List Ent} [tk : TakeR v H e 1 m cs R1] (hx : Opd F x (slv v 1 l m)) (ht : P.underlying t = some (.slice e)) (hz : (P.info? e).bind (·.zero) = some zv) (hzs : zv.cells = #[zv]) (h1 : zv.oneCell' = true) (hl : l ≤ m) {dd : Option Tmp} (hd : dd = none)
    (h : St n F (Mm c (row v e 1 m (cs.take l ++ List.replicate (m - l) zv) :: R1)) (wpList P ops Q rest)) :
    St n F (Mm c H) (wpList P ops Q ({ dst := dd, op := .call { callee := .builtin .clear, args := #[x], argTypes := #[t] }, type := ty, pos := pos, after := after, guard := none } :: rest)) := by
  subst hd
  refine St.do_none (K := fun u' H' => H' = row v e 1 m (cs.take l ++ List.replicate (m - l) zv) :: R1) ?_ ?_
  · intro a w ρ ha hm
    have hm' := hm.perm tk.perm
    have hr := row_ok.1 (hm'.ents _ (List.mem_cons_self ..))
    obtain ⟨i, hi, hzi⟩ := Option.bind_eq_some_iff.1 hz
    have hzv : ∀ w, (zeroValue e).run P w = .ok zv w := fun w => by simp [zeroValue, typeInfo, hi, hzi]
    have hcl := hr.1
    rw [Nat.mul_one] at hcl
    have hlen : (cs.take l ++ List.replicate (m - l) zv).length = m * 1 := by rw [List.length_append, List.length_take, List.length_replicate]; omega
    rcases hr.2 with ⟨rfl, rfl⟩ | ⟨g, cap, cur, rfl, hg0, hg, hc1, hc2, hcs, htk⟩
    · obtain rfl : l = 0 := by omega
      have hcs0 : cs = [] := List.eq_nil_of_length_eq_zero hcl
      subst hcs0
      rw [slv_slice] at hx
      refine ⟨.value (.tuple #[]), w, ρ, _, ?_, ⟨_, .inl rfl, rfl⟩, ?_⟩
      · simp [execOp, resolve, invoke, builtin, hx.eval ha, Builtin.clear_, run_underlying ht]
      · simpa using hm'
    · rcases Nat.lt_or_ge l m with hlm | hlm
      · have hne : ¬ cap = l := by omega
        rw [slv_slice, if_neg hne] at hx
        simp only [Option.map_some, Addr.add_lit, Nat.zero_add, Nat.mul_one] at hx
        have hcell : ∀ off, w.cell? ⟨g, off, none⟩ = cur[off]? := fun off => cell?_of_blk hg
        rw [Nat.mul_one] at hcs
        have hr2 := Lib.run_clear_slice (P := P) w t e ty zv ht hzv hzs h1 g l (m - l) (cap - l) (by omega) (fun j hj => by rw [hcell, Array.getElem?_eq_getElem (by omega)]; rfl) (fun j hj => by simp [World.frozen?, hg])
        obtain ⟨k1, k2, k3, k4, k5, k6, k7⟩ := setCells_heap g (List.replicate (m - l) zv) l w cur.toList (by rw [hg]) (by rw [List.length_replicate, Array.length_toList]; omega)
        refine ⟨.value (.tuple #[]), w.setCells g l (List.replicate (m - l) zv), ρ, _, ?_, ⟨_, .inl rfl, rfl⟩, ?_⟩
        · simp [execOp, resolve, invoke, builtin, hx.eval ha, hr2]
        · refine hm'.alter k4 ⟨k5, by rw [k6]; exact Nat.le_refl _⟩ k7 (by rw [k2]; exact Nat.le_refl _) (fun k hk hne => ?_) (row_ok.2 ⟨hlen, .inr ⟨g, cap, _, rfl, hg0, k1, hc1, hc2, ?_, ?_⟩⟩) (fun b' hb' => by rw [row_key] at hb' ⊢; exact .inl hb')
          · rw [row_key] at hne
            exact k3 k (fun e => hne (by rw [e]; rfl))
          · simp only [List.size_toArray, List.length_append, List.length_take, List.length_replicate, List.length_drop, Array.length_toList]; omega
          · have htk' : cur.toList.take m = cs := by simpa using htk
            show (cur.toList.take l ++ List.replicate (m - l) zv ++ cur.toList.drop (l + (List.replicate (m - l) zv).length)).take (m * 1) = _
            rw [take_mid (by rw [List.length_take, List.length_replicate, Array.length_toList]; omega)]
            rw [← htk', List.take_take, Nat.min_eq_left (show l ≤ m by omega)]
      · obtain rfl : l = m := by omega
        rw [slv_slice, Nat.sub_self] at hx
        refine ⟨.value (.tuple #[]), w, ρ, _, ?_, ⟨_, .inl rfl, rfl⟩, ?_⟩
        · have hx2 : ∃ ad, Opd F x (.slice ad 0 (cap - l)) := ⟨_, hx⟩
          obtain ⟨ad, hx3⟩ := hx2
          cases ad <;> simp [execOp, resolve, invoke, builtin, hx3.eval ha, Builtin.clear_, run_underlying ht]
        · have : cs.take l ++ List.replicate (l - l) zv = cs := by rw [Nat.sub_self, List.replicate_zero, List.append_nil, List.take_of_length_le (by omega)]
          rw [this]; exact hm'
  · rintro _ _ rfl
    exact h
end
end Go.J
