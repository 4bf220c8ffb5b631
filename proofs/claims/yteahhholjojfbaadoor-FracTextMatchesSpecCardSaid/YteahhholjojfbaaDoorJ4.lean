/-
  The laws of operations that turn the world: new variables, stores, slices that are made and appended to; and of calls.
  Conditions: none; everything holds of any program.
-/
import Derived.Test.YteahhholjojfbaaDoorJ3
namespace Go.J
open Go

/-- a world in which block b alone is another, or new -/
theorem MmR.new1 {c : Ctx} {H : List Ent} {ρ : Ro} {w w' : World} {E : Ent} (h : MmR c H ρ w) (hos : w'.os = w.os) (ht : w'.tape = w.tape) (ho : w'.output = w.output) (hs : w.heap.size ≤ w'.heap.size)
    (hk : ∀ k, k < w.heap.size → w'.heap[k]? = w.heap[k]?) (hE : E.ok ρ w') (hkey : ∀ b, E.key = some b → w.heap.size ≤ b) : MmR c (E :: H) ρ w' := by
  have h' : MmR c ([] ++ H) ρ w := h
  refine MmR.step (H2 := [E]) h' ⟨hos, ht, ho, hs, fun k hk1 _ => hk k hk1, fun k o hr => ?_, Ro.le_refl _, fun _ _ _ => rfl, ?_, ?_, ?_⟩
  · rw [hk k (h.rlt hr)]; exact h.fits k o hr
  · intro E' hE'; simp at hE'; subst hE'; exact hE
  · intro E' hE' b hb
    simp at hE'; subst hE'
    refine ⟨?_, .inl (hkey b hb)⟩
    cases hr : ρ b with
    | none => rfl
    | some o => have h1 := h.rlt hr; have h2 := hkey b hb; omega
  · exact List.pairwise_singleton ..

theorem MmR.alter {c : Ctx} {H : List Ent} {ρ : Ro} {w w' : World} {E E' : Ent} (h : MmR c (E :: H) ρ w) (hos : w'.os = w.os) (ht : w'.tape = w.tape) (ho : w'.output = w.output) (hs : w.heap.size ≤ w'.heap.size)
    (hk : ∀ k, k < w.heap.size → E.key ≠ some k → w'.heap[k]? = w.heap[k]?) (hE : E'.ok ρ w') (hkey : ∀ b, E'.key = some b → E.key = some b ∨ w.heap.size ≤ b) : MmR c (E' :: H) ρ w' := by
  have h' : MmR c ([E] ++ H) ρ w := h
  refine MmR.step (H2 := [E']) h' ⟨hos, ht, ho, hs, fun k hk1 hk2 => hk k hk1 (fun e => hk2 ⟨E, by simp, e⟩), fun k o hr => ?_, Ro.le_refl _, fun _ _ _ => rfl, ?_, ?_, ?_⟩
  · rw [hk k (h.rlt hr)]
    · exact h.fits k o hr
    · intro e
      have := (h.own E (by simp) k e).1
      rw [hr] at this; cases this
  · intro E'' hE''; simp at hE''; subst hE''; exact hE
  · intro E'' hE'' b hb
    simp at hE''; subst hE''
    rcases hkey b hb with h1 | h1
    · exact ⟨(h.own E (by simp) b h1).1, .inr ⟨E, by simp, h1⟩⟩
    · refine ⟨?_, .inl h1⟩
      cases hr : ρ b with
      | none => rfl
      | some o => have := h.rlt hr; omega
  · exact List.pairwise_singleton ..

theorem MmR.alloc {c : Ctx} {H : List Ent} {ρ : Ro} {w : World} (h : MmR c H ρ w) (o : Obj) : MmR c (blk w.heap.size o :: H) ρ (w.alloc o) :=
  h.new1 rfl rfl rfl (by simp) (fun k hk => RowKit.Below.heap_alloc w _ k hk) (blk_ok.2 (heap_alloc_new w o)) (fun b hb => by rw [blk_key] at hb; simp at hb; omega)

class SetL (L : List Value) (off : Nat) (v : Value) (L' : outParam (List Value)) : Prop where
  eq : L.set off v = L'
instance SetL.here (x : Value) (L : List Value) (v : Value) : SetL (x :: L) 0 v (v :: L) := ⟨rfl⟩
instance SetL.there (x : Value) (L : List Value) (v : Value) (k : Nat) (L' : List Value) [h : SetL L k v L'] : SetL (x :: L) (k + 1) v (x :: L') := ⟨by rw [List.set_cons_succ, h.eq]⟩

/-- rows of slots in memory: the row of v is at hand -/
class InR (v : Value) (H : List Ent) (e : outParam TypeId) (size n : outParam Nat) (cs : outParam (List Value)) : Prop where
  mem : row v e size n cs ∈ H
instance (priority := high) InR.here (v : Value) (e : TypeId) (size n : Nat) (cs : List Value) (H : List Ent) : InR v (row v e size n cs :: H) e size n cs := ⟨List.mem_cons_self ..⟩
instance InR.there (v : Value) (e : TypeId) (size n : Nat) (cs : List Value) (E : Ent) (H : List Ent) [h : InR v H e size n cs] : InR v (E :: H) e size n cs := ⟨List.mem_cons_of_mem _ h.mem⟩

theorem cells_agg (C : Array Value) : (Value.agg C).cells = C := rfl
theorem cells_one {v : Value} (h : v.oneCell' = true) : v.cells = #[v] := by
  cases v <;> first | rfl | simp [Value.oneCell'] at h

section
variable {P : Program} {n : Nat} {F : Fr} {A : World → Prop} {c : Ctx} {H R : List Ent} {ty : TypeId} {x y z : Operand} {v : Value} {Q : Exit → Act → World → Prop} {ops : Array Oper} {rest : List Oper}
  {d : Nat} {pos : String} {after : Array Edge} {t e : TypeId}

/-- 'var x T', a composite's place: a new variable, its zero value -/
theorem St.alloc {Z : Array Value} (hz : (P.info? t).bind (fun i => i.zero.map Value.cells) = some Z) (hd : Nat.ble (d + 1) n = true)
    (h : ∀ b, St n ((d, .pointer (some ⟨b, 0, none⟩)) :: F) (Mm c (blk b (.cells Z t (0, 0)) :: H)) (wpList P ops Q rest)) :
    St n F (Mm c H) (wpList P ops Q ({ dst := some d, op := .alloc t, type := ty, pos := pos, after := after, guard := none } :: rest)) := by
  refine St.do_ (K := fun u H' => ∃ b, u = .pointer (some ⟨b, 0, none⟩) ∧ H' = blk b (.cells Z t (0, 0)) :: H) ?_ hd ?_
  · intro a w ρ ha hm
    obtain ⟨i, hi, hz'⟩ := Option.bind_eq_some_iff.1 hz
    obtain ⟨zv, hzv, rfl⟩ := Option.map_eq_some_iff.1 hz'
    refine ⟨.value (.pointer (some ⟨w.heap.size, 0, none⟩)), w.alloc (.cells zv.cells t), ρ, _, ?_, ⟨_, .inl rfl, _, rfl, rfl⟩, hm.alloc _⟩
    simp [execOp, Instr.alloc, zeroValue, typeInfo, hi, hzv, newVar, newRow]
  · rintro _ _ ⟨b, rfl, rfl⟩
    exact h b

/-- a variable that is captured or addressed, with a value of one cell -/
theorem St.box1 (hx : Opd F x v) (h1 : v.oneCell' = true) (hd : Nat.ble (d + 1) n = true)
    (h : ∀ b, St n ((d, .pointer (some ⟨b, 0, none⟩)) :: F) (Mm c (blk b (.cells #[v] t (0, 0)) :: H)) (wpList P ops Q rest)) :
    St n F (Mm c H) (wpList P ops Q ({ dst := some d, op := .box t x, type := ty, pos := pos, after := after, guard := none } :: rest)) := by
  refine St.do_ (K := fun u H' => ∃ b, u = .pointer (some ⟨b, 0, none⟩) ∧ H' = blk b (.cells #[v] t (0, 0)) :: H) ?_ hd ?_
  · intro a w ρ ha hm
    refine ⟨.value (.pointer (some ⟨w.heap.size, 0, none⟩)), w.alloc (.cells #[v] t), ρ, _, ?_, ⟨_, .inl rfl, _, rfl, rfl⟩, hm.alloc _⟩
    simp [execOp, Instr.box, hx.eval ha, newVar, newRow, cells_one h1]
  · rintro _ _ ⟨b, rfl, rfl⟩
    exact h b

theorem St.boxA {L : List Value} (hx : Opd F x (.agg L.toArray)) (hd : Nat.ble (d + 1) n = true)
    (h : ∀ b, St n ((d, .pointer (some ⟨b, 0, none⟩)) :: F) (Mm c (blk b (.cells L.toArray t (0, 0)) :: H)) (wpList P ops Q rest)) :
    St n F (Mm c H) (wpList P ops Q ({ dst := some d, op := .box t x, type := ty, pos := pos, after := after, guard := none } :: rest)) := by
  refine St.do_ (K := fun u H' => ∃ b, u = .pointer (some ⟨b, 0, none⟩) ∧ H' = blk b (.cells L.toArray t (0, 0)) :: H) ?_ hd ?_
  · intro a w ρ ha hm
    refine ⟨.value (.pointer (some ⟨w.heap.size, 0, none⟩)), w.alloc (.cells L.toArray t), ρ, _, ?_, ⟨_, .inl rfl, _, rfl, rfl⟩, hm.alloc _⟩
    simp [execOp, Instr.box, hx.eval ha, newVar, newRow, Value.cells]
  · rintro _ _ ⟨b, rfl, rfl⟩
    exact h b

theorem setCell_blk {w : World} {b off : Nat} {C : Array Value} {v : Value} (h : w.heap[b]? = some (.cells C e (0, 0))) : (w.setCell ⟨b, off, none⟩ v).heap[b]? = some (.cells (C.setIfInBounds off v) e (0, 0)) := by
  simp [World.setCell, Array.getElem?_modify, h]

/-- a store of one cell -/
theorem St.store1 {b off : Nat} {L L' : List Value} [tk : TakeB b H (.cells L.toArray e (0, 0)) R] (hx : Opd F x (.pointer (some ⟨b, off, none⟩))) (hy : Opd F y v) [sl : SetL L off v L'] (hs : (P.info? t).map (·.size) = some 1) (h1 : v.oneCell' = true)
    (hoff : Nat.ble (off + 1) L.length = true) (h : St n F (Mm c (blk b (.cells L'.toArray e (0, 0)) :: R)) (wpList P ops Q rest)) :
    St n F (Mm c H) (wpList P ops Q ({ dst := none, op := .store t x y, type := ty, pos := pos, after := after, guard := none } :: rest)) := by
  refine St.do_none (K := fun u H' => H' = blk b (.cells L'.toArray e (0, 0)) :: R) ?_ ?_
  · intro a w ρ ha hm
    have hm' := hm.perm tk.perm
    have hb := blk_ok.1 (hm'.ents _ (List.mem_cons_self ..))
    have ho := Nat.le_of_ble_eq_true hoff
    have hc : w.cell? ⟨b, off, none⟩ = some L[off] := by rw [cell?_of_blk hb]; simp
    have hf : w.frozen? ⟨b, off, none⟩ = false := by simp [World.frozen?, hb]
    obtain ⟨i, hi, hsz⟩ := Option.map_eq_some_iff.1 hs
    refine ⟨.skip, w.setCell ⟨b, off, none⟩ v, ρ, _, ?_, ⟨_, .inr ⟨rfl, rfl⟩, rfl⟩, ?_⟩
    · simp [execOp, hx.eval ha, hy.eval ha, Instr.storeAt, Instr.sureAddr, storeVar, sizeOf, typeInfo, hi, hsz, cells_one h1, storeCells, run_store P w _ v _ h1, hc, hf, Addr.add_zero']
    · refine hm'.alter rfl rfl rfl (by simp) (fun k hk hne => ?_) (blk_ok.2 ?_) (fun b' hb' => by rw [blk_key] at hb' ⊢; exact .inl hb')
      · rw [blk_key] at hne
        simp only [World.setCell, Array.getElem?_modify]
        rw [if_neg (fun e => hne (by rw [e]))]
      · rw [setCell_blk hb, ← sl.eq]
        simp
  · rintro _ _ rfl
    exact h

/-- a store of a whole variable of several cells -/
theorem St.storeA {b : Nat} {L L' : List Value} [tk : TakeB b H (.cells L.toArray t (0, 0)) R] (hx : Opd F x (.pointer (some ⟨b, 0, none⟩))) (hy : Opd F y (.agg L'.toArray)) (hs : (P.info? e).map (·.size) = some L'.length) (hl : L.length = L'.length)
    (h1 : L'.all (·.oneCell') = true) (h : St n F (Mm c (blk b (.cells L'.toArray t (0, 0)) :: R)) (wpList P ops Q rest)) :
    St n F (Mm c H) (wpList P ops Q ({ dst := none, op := .store e x y, type := ty, pos := pos, after := after, guard := none } :: rest)) := by
  refine St.do_none (K := fun u H' => H' = blk b (.cells L'.toArray t (0, 0)) :: R) ?_ ?_
  · intro a w ρ ha hm
    have hm' := hm.perm tk.perm
    have hb := blk_ok.1 (hm'.ents _ (List.mem_cons_self ..))
    have hr := run_storeVar_row (P := P) w b t e L.toArray L'.toArray hb (by simpa using hs) (by simpa using hl) (by simpa using h1)
    refine ⟨.skip, w.setRow b L'.toArray, ρ, _, ?_, ⟨_, .inr ⟨rfl, rfl⟩, rfl⟩, ?_⟩
    · simp [execOp, hx.eval ha, hy.eval ha, Instr.storeAt, Instr.sureAddr, hr]
    · refine hm'.alter rfl rfl rfl (by simp) (fun k hk hne => ?_) (blk_ok.2 ?_) (fun b' hb' => by rw [blk_key] at hb' ⊢; exact .inl hb')
      · rw [blk_key] at hne
        exact setRow_other w b k _ (fun e => hne (by rw [e]))
      · exact setRow_heap w b L.toArray L'.toArray t _ hb
  · rintro _ _ rfl
    exact h

theorem Ev.func {f : FuncId} {cs : List Operand} {vs : List Value} (hc : Opds F cs vs) : Ev P n F A (.makeFunc (.func f) #[] cs.toArray) ty (.func (.func f) #[] vs.toArray) := .of_run fun a w ha _ => by
  have := Opds.eval ha hc
  simp [execOp, Instr.makeFunc, this]

theorem fill_seq (size : Nat) : ∀ (vs : List Value) (k : Nat) (pre post : List Value), pre.length = k * size → (∀ u ∈ vs, u.cells.size = size) → post.length = vs.length * size →
    Instr.fill (fun i => some (i * size, size)) (pre ++ post).toArray ((vs.zipIdx k).map fun p => (p.2, p.1)) = some (pre ++ vs.flatMap fun u => u.cells.toList).toArray
  | [], k, pre, post, _, _, hp => by
    have : post = [] := List.eq_nil_of_length_eq_zero (by simpa using hp)
    subst this
    simp [Instr.fill]
  | u :: vs, k, pre, post, hpre, hu, hpost => by
    have hu1 := hu u (by simp)
    have hlen : post.length = size + vs.length * size := by rw [hpost, List.length_cons, Nat.add_mul]; omega
    have hset : ∀ (l : List Value) (m : Nat) (Z : List Value), m + l.length ≤ Z.length → ((l.zipIdx m).foldl (fun cs p => cs.setIfInBounds (k * size + p.2) p.1) (pre ++ Z).toArray) = (pre ++ (Z.take m ++ l ++ Z.drop (m + l.length))).toArray := by
      intro l
      induction l with
      | nil => intro m Z _; simp
      | cons y l ih =>
        intro m Z hZ
        simp only [List.length_cons] at hZ
        simp only [List.zipIdx_cons, List.foldl_cons]
        have e1 : (pre ++ Z).toArray.setIfInBounds (k * size + m) y = (pre ++ Z.set m y).toArray := by
          simp only [List.setIfInBounds_toArray]
          rw [List.set_append_right _ _ (by omega)]
          congr 2
          rw [show k * size + m - pre.length = m by omega]
        rw [e1, ih (m + 1) (Z.set m y) (by simp; omega)]
        congr 2
        simp only [List.length_cons]
        rw [List.drop_set_of_lt (by omega), show m + 1 + l.length = m + (l.length + 1) by omega]
        rw [List.take_set]
        have : (Z.take (m + 1)).set m y = Z.take m ++ [y] := by
          rw [List.take_succ_eq_append_getElem (by omega), List.set_append_right _ _ (by simp [Nat.min_le_left])]
          simp [show min m Z.length = m by omega]
        rw [this]
        simp
    simp only [List.zipIdx_cons, List.map_cons, Instr.fill]
    have hb : ¬ (u.cells.size ≠ size ∨ (pre ++ post).toArray.size < k * size + u.cells.size) := by simp; omega
    have hb' : ((decide (u.cells.size ≠ size)) || decide (k * size + u.cells.size > (pre ++ post).toArray.size)) = false := by
      simp; omega
    simp only [hb', Bool.false_eq_true, if_false]
    have hf := hset u.cells.toList 0 post (by simp; omega)
    have hz : u.cells.zipIdx.foldl (fun cs (c, j) => cs.setIfInBounds (k * size + j) c) (pre ++ post).toArray = (pre ++ (u.cells.toList ++ post.drop size)).toArray := by
      rw [← Array.foldl_toList]
      simp only [Array.toList_zipIdx]
      rw [hf]
      simp [hu1]
    rw [hz, ← List.append_assoc]
    have ih := fill_seq size vs (k + 1) (pre ++ u.cells.toList) (post.drop size) (by simp [hu1, hpre, Nat.add_mul]) (fun x hx => hu x (by simp [hx])) (by simp; omega)
    rw [ih]
    simp

/-- '[]T{..}' with all its parts -/
theorem St.buildSl {size : Nat} {xs : List Operand} {vs : List Value} {ps : List (Nat × Operand)} {zv : Value} (hp : ps = xs.zipIdx.map fun p => (p.2, p.1)) (hx : Opds F xs vs) (ht : P.underlying t = some (.slice e)) (hs : (P.info? e).map (·.size) = some size)
    (hz : (P.info? e).bind (·.zero) = some zv) (hpos : Nat.ble 1 size = true) (hlen : Nat.ble (vs.length * size) 16777216 = true) (hcs : ∀ u ∈ vs, u.cells.size = size) (hd : Nat.ble (d + 1) n = true)
    {m : Nat} (hm : m = vs.length)
    (h : ∀ b, St n ((d, .slice (some ⟨b, 0, none⟩) m m) :: F) (Mm c (row (.slice (some ⟨b, 0, none⟩) m m) e size m (vs.flatMap fun u => u.cells.toList) :: H)) (wpList P ops Q rest)) :
    St n F (Mm c H) (wpList P ops Q ({ dst := some d, op := .buildSlice t m ps.toArray, type := ty, pos := pos, after := after, guard := none } :: rest)) := by
  subst hm
  refine St.do_ (K := fun u H' => ∃ b, u = .slice (some ⟨b, 0, none⟩) vs.length vs.length ∧ H' = row (.slice (some ⟨b, 0, none⟩) vs.length vs.length) e size vs.length (vs.flatMap fun u => u.cells.toList) :: H) ?_ hd ?_
  · intro a w ρ ha hmm
    have hle := Nat.le_of_ble_eq_true hlen
    have hxv := Opds.eval ha hx
    have hxl : xs.length = vs.length := by rw [← hxv, List.length_map]
    obtain ⟨i, hi, hsz⟩ := Option.map_eq_some_iff.1 hs
    have hzi : i.zero = some zv := by rw [hi] at hz; simpa using hz
    have hflat : (vs.flatMap fun u => u.cells.toList).length = vs.length * size := by
      clear hx hxv hxl hle hlen h
      induction vs with
      | nil => simp
      | cons u vs ih =>
        simp only [List.flatMap_cons, List.length_append, List.length_cons, Nat.add_mul]
        rw [ih (fun x hx => hcs x (by simp [hx]))]
        have := hcs u (by simp)
        simp [this]; omega
    have hparts : (ps.toArray.map fun (i, x) => (i, a.eval x)).toList = (vs.zipIdx).map fun p => (p.2, p.1) := by
      subst hp
      rw [← hxv]
      simp [List.zipIdx_map, Function.comp_def]
    refine ⟨.value (.slice (some ⟨w.heap.size, 0, none⟩) vs.length vs.length), w.alloc (.cells (vs.flatMap fun u => u.cells.toList).toArray e), ρ, _, ?_, ⟨_, .inl rfl, _, rfl, rfl⟩, ?_⟩
    · by_cases h0 : vs.length * size = 0
      · have hv0 : vs = [] := by
          rcases Nat.mul_eq_zero.1 h0 with h1 | h1
          · exact List.eq_nil_of_length_eq_zero h1
          · have := Nat.le_of_ble_eq_true hpos; omega
        rw [hv0] at hparts ⊢
        simp only [execOp, Instr.buildSlice, Sem.run_bind, run_underlying ht, Result.andThen_ok, sizeOf, typeInfo, Sem.run_pure, hparts, run_program, hi, hsz]
        simp [Instr.fill, newRow, Array.range_zero']
      · obtain ⟨z, hzz⟩ : ∃ z : List Value, ((Array.range (vs.length * size)).map (zv.cells[· % zv.cells.size]!)) = z.toArray := ⟨_, (Array.toArray_toList).symm⟩
        have hzl : z.length = vs.length * size := by have := congrArg Array.size hzz; simpa using this.symm
        have hf := fill_seq size vs 0 [] z (by simp) hcs hzl
        simp only [List.nil_append] at hf
        have hgt : ¬ vs.length * size > 2 ^ 24 := by simp; omega
        simp only [execOp, Instr.buildSlice, Sem.run_bind, run_underlying ht, Result.andThen_ok, sizeOf, typeInfo, Sem.run_pure, hparts, run_program, hi, hsz, zeroValue, hzi, hgt, h0, if_false, hzz, Sem.run_ite]
        simp [hf, newRow]
    · refine hmm.new1 rfl rfl rfl (by simp) (fun k hk => RowKit.Below.heap_alloc w _ k hk) (row_ok.2 ⟨hflat, .inr ⟨w.heap.size, vs.length, _, rfl, Nat.zero_le _, heap_alloc_new w _, Nat.le_refl _, ?_, ?_, ?_⟩⟩) ?_
      · have : vs.length ≤ vs.length * size := Nat.le_mul_of_pos_right _ (Nat.le_of_ble_eq_true hpos)
        unfold maxLen; omega
      · rw [List.size_toArray, hflat]
      · rw [← hflat, List.take_length]
      · intro b hb; rw [row_key] at hb; simp [Value.ownBlock] at hb; omega
  · rintro _ _ ⟨b, rfl, rfl⟩
    exact h b
/-- the function is there, and has a body -/
def Callable (P : Program) (f : FuncId) : Prop := ∃ fn, P.funcs[f]? = some fn ∧ fn.body.isSome = true ∧ (fn.name == "runtime.NumGoroutine") = false

theorem Callable.run {f : FuncId} (h : Callable P f) {args : Array Value} {w : World} : (callFunc f args).run P w = .ok (.enter f args) w :=
  let ⟨_, h1, h2, h3⟩ := h; callFunc_run h1 h2 h3

theorem Mm.call {f : FuncId} {args : Array Value} {pre R : List Ent} {post : Value → List Ent → Prop} (hc : FnH P f args pre post) {w : World} (hm : Mm c (pre ++ R) w) :
    Calls P f args w fun e w' => ∃ v H', e = .returned v ∧ post v H' ∧ Mm c (H' ++ R) w' := by
  obtain ⟨ρ, hm⟩ := hm.out
  refine (hc w ρ hm.start).mono ?_
  rintro e w' ⟨v, H', he, hp, hm'⟩
  obtain ⟨ρ', hm'⟩ := hm'.out
  exact ⟨v, H', he, hp, Mm.mk (hm.step hm')⟩

theorem Mm.withDats {ds : List Dat} [hd : InDs ds H] {w : World} (hm : Mm c H w) : Mm c (ds.map dat ++ H) w :=
  let ⟨_, k⟩ := hm.out; Mm.mk (k.dats ds fun d h => dat_ok.1 (k.ents _ (hd.mem d h)))

theorem exec_call {f : FuncId} {xs : List Operand} {ats : Array TypeId} {vs caps : List Value} (hcb : Callable P f) (hx : Opds F (x :: xs) (.func (.func f) #[] caps.toArray :: vs)) {a : Act} (ha : Has n a F) (w : World) :
    (execOp a.eval (bare (.call { callee := .value x, args := xs.toArray, argTypes := ats }) ty)).run P w = .ok (.enter f (vs ++ caps).toArray) w := by
  have h1 := hx.1.eval ha
  have h2 := Opds.eval ha hx.2
  simp only [execOp, resolve, h1, Deferred.ofValue, Sem.run_bind, Sem.run_pure, Result.andThen_ok, invoke]
  have e : (#[] ++ xs.toArray.map a.eval ++ caps.toArray) = (vs ++ caps).toArray := by simp [h2]
  rw [e]
  exact hcb.run

/-- a call by a contract with one value -/
theorem Ev.call {f : FuncId} {xs : List Operand} {ats : Array TypeId} {vs : List Value} {ds : List Dat} (hc : FnV P f vs.toArray ds v) (hcb : Callable P f) (hx : Opds F xs vs) [hd : InDs ds H] :
    Ev P n F (Mm c H) (.call { callee := .value (.func f), args := xs.toArray, argTypes := ats }) ty v := by
  intro a w ha hw
  rw [exec_call (caps := []) hcb (Opds.cons (Opd.mk rfl) hx) ha w]
  simp only [List.append_nil, Oper.quietUpon, true_and]
  refine (Mm.call hc hw.withDats).mono ?_
  rintro e w' ⟨u, H', rfl, rfl, hm⟩
  refine ⟨rfl, ?_⟩
  obtain ⟨ρ, hm⟩ := hm.out
  exact Mm.mk ((hm.perm List.perm_append_comm).left)

/-- a call of a function value by a contract with one value -/
theorem Ev.callc {f : FuncId} {xs : List Operand} {ats : Array TypeId} {vs caps : List Value} {ds : List Dat} (hc : FnV P f (vs ++ caps).toArray ds v) (hcb : Callable P f) (hf : Opd F x (.func (.func f) #[] caps.toArray)) (hx : Opds F xs vs) [hd : InDs ds H] :
    Ev P n F (Mm c H) (.call { callee := .value x, args := xs.toArray, argTypes := ats }) ty v := by
  intro a w ha hw
  rw [exec_call hcb (Opds.cons hf hx) ha w]
  simp only [Oper.quietUpon, true_and]
  refine (Mm.call hc hw.withDats).mono ?_
  rintro e w' ⟨u, H', rfl, rfl, hm⟩
  refine ⟨rfl, ?_⟩
  obtain ⟨ρ, hm⟩ := hm.out
  exact Mm.mk ((hm.perm List.perm_append_comm).left)

theorem exec_call_wp {f : FuncId} {xs : List Operand} {ats : Array TypeId} {vs caps : List Value} (hcb : Callable P f) (hx : Opds F (x :: xs) (.func (.func f) #[] caps.toArray :: vs)) {a : Act} (ha : Has n a F) (w : World) {K : Act → World → Prop}
    {dd : Option Tmp} {g : Option (Nat × Bool)}
    (hk : Calls P f (vs ++ caps).toArray w fun e w' => ∃ v, e = .returned v ∧ K (a.put dd v) w') :
    ({ dst := dd, op := .call { callee := .value x, args := xs.toArray, argTypes := ats }, type := ty, pos := pos, after := after, guard := g } : Oper).wp P a w K Q := by
  unfold Oper.wp Oper.upon
  rw [execOp_bare, exec_call hcb hx ha w]
  exact hk.mono fun e w' ⟨v, he, h⟩ => by subst he; exact h

/-- a call by a contract -/
theorem St.call {f : FuncId} {xs : List Operand} {ats : Array TypeId} {vs : List Value} {pre R : List Ent} {post : Value → List Ent → Prop} (hc : FnH P f vs.toArray pre post) (hcb : Callable P f) (hx : Opds F xs vs) (hd : Nat.ble (d + 1) n = true) [tk : TakeL pre H R]
    (h : ∀ v H', post v H' → St n ((d, v) :: F) (Mm c (H' ++ R)) (wpList P ops Q rest)) :
    St n F (Mm c H) (wpList P ops Q ({ dst := some d, op := .call { callee := .value (.func f), args := xs.toArray, argTypes := ats }, type := ty, pos := pos, after := after, guard := none } :: rest)) := by
  intro a w ha hw
  refine wpList_wp rfl (exec_call_wp (caps := []) hcb (Opds.cons (Opd.mk rfl) hx) ha w ?_)
  simp only [List.append_nil]
  refine (Mm.call hc (hw.take (L := pre))).mono ?_
  rintro e w' ⟨u, H', rfl, hp, hm⟩
  exact ⟨u, rfl, h u H' hp _ w' (ha.put (Nat.le_of_ble_eq_true hd) u) hm⟩

/-- a call by a contract over data alone: all that was at hand stays -/
theorem St.calld {f : FuncId} {xs : List Operand} {ats : Array TypeId} {vs : List Value} {ds : List Dat} {post : Value → List Ent → Prop} (hc : FnH P f vs.toArray (ds.map dat) post) (hcb : Callable P f) (hx : Opds F xs vs) (hd : Nat.ble (d + 1) n = true) [hds : InDs ds H]
    (h : ∀ v H', post v H' → St n ((d, v) :: F) (Mm c (H' ++ H)) (wpList P ops Q rest)) :
    St n F (Mm c H) (wpList P ops Q ({ dst := some d, op := .call { callee := .value (.func f), args := xs.toArray, argTypes := ats }, type := ty, pos := pos, after := after, guard := none } :: rest)) := by
  intro a w ha hw
  refine wpList_wp rfl (exec_call_wp (caps := []) hcb (Opds.cons (Opd.mk rfl) hx) ha w ?_)
  simp only [List.append_nil]
  refine (Mm.call hc (hw.withDats (ds := ds))).mono ?_
  rintro e w' ⟨u, H', rfl, hp, hm⟩
  exact ⟨u, rfl, h u H' hp _ w' (ha.put (Nat.le_of_ble_eq_true hd) u) hm⟩

theorem St.callc {f : FuncId} {xs : List Operand} {ats : Array TypeId} {vs caps : List Value} {pre R : List Ent} {post : Value → List Ent → Prop} (hc : FnH P f (vs ++ caps).toArray pre post) (hcb : Callable P f) (hf : Opd F x (.func (.func f) #[] caps.toArray)) (hx : Opds F xs vs) (hd : Nat.ble (d + 1) n = true) [tk : TakeL pre H R]
    (h : ∀ v H', post v H' → St n ((d, v) :: F) (Mm c (H' ++ R)) (wpList P ops Q rest)) :
    St n F (Mm c H) (wpList P ops Q ({ dst := some d, op := .call { callee := .value x, args := xs.toArray, argTypes := ats }, type := ty, pos := pos, after := after, guard := none } :: rest)) := by
  intro a w ha hw
  refine wpList_wp rfl (exec_call_wp hcb (Opds.cons hf hx) ha w ?_)
  refine (Mm.call hc (hw.take (L := pre))).mono ?_
  rintro e w' ⟨u, H', rfl, hp, hm⟩
  exact ⟨u, rfl, h u H' hp _ w' (ha.put (Nat.le_of_ble_eq_true hd) u) hm⟩

/-- the places of a struct's fields -/
def placesRun (P : Program) (t : TypeId) (w : World) : Result (Array (Nat × Nat)) :=
  match P.underlying t with
  | some (.struct fs) => (fs.mapM fun f => (do pure (f.offset, ← sizeOf f.type) : Sem (Nat × Nat))).run P w
  | _ => .halt (.stuck "") w

theorem run_buildS {Z C : Array Value} {pl : Array (Nat × Nat)} {parts : List (Nat × Value)} {w : World} (hz : (P.info? t).bind (fun i => i.zero.map Value.cells) = some Z) (hp : placesRun P t w = .ok pl w) (hf : Instr.fill (pl[·]?) Z parts = some C) :
    (Instr.build t parts.toArray).run P w = .ok (.agg C) w := by
  obtain ⟨i, hi, hz'⟩ := Option.bind_eq_some_iff.1 hz
  obtain ⟨zv, hzv, rfl⟩ := Option.map_eq_some_iff.1 hz'
  unfold placesRun at hp
  split at hp
  · rename_i fs hu
    simp only [Instr.build, zeroValue, typeInfo, Sem.run_bind, run_program, Result.andThen_ok, hi, hzv, Sem.run_pure, run_underlying hu, hp, hf]
  · cases hp

end
end Go.J
