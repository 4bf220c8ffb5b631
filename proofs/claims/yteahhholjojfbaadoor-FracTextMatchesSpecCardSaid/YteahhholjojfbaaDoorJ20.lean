/-
  Arrays in blocks of the call's own, errors against nil, a byte as a text; contracts of the library's functions over what its variables hold.
  Conditions: none; everything holds of any program.
-/
import Derived.Test.YteahhholjojfbaaDoorJ12
import Derived.Laws.IdiomStrings
import Derived.Stop.IfaceNil
import Derived.Below
namespace Go.J
open Go Go.RowKit
section
variable {P : Program} {n : Nat} {F : Fr} {A : World → Prop} {c : Ctx} {H R : List Ent} {ty t e : TypeId} {x y : Operand} {Q : Exit → Act → World → Prop} {ops : Array Oper} {rest : List Oper} {pos : String} {after : Array Edge}
/-- the place of an array's element -/
theorem Ev.idxarr {b k N : Nat} {i : Int} {kd : IntKind} (hx : Opd F x (.pointer (some ⟨b, 0, none⟩))) (hy : Opd F y (.int kd i)) (ht : P.underlying t = some (.array N e)) (hs : (P.info? e).map (·.size) = some 1)
    (hi : i = k) (hk : k < N) : Ev P n F A (.indexAddr t x y) ty (.pointer (some ⟨b, k, none⟩)) := .of_run fun a w ha hw => by
  obtain ⟨inf, hinf, hsz⟩ := Option.map_eq_some_iff.1 hs
  subst hi
  simp [execOp, hx.eval ha, hy.eval ha, Instr.indexAt, Instr.sureAddr, asIntOf, run_underlying ht, sizeOf, typeInfo, hinf, hsz, hk, Addr.add_lit]
/-- a store of one cell, wherever it lies -/
theorem St.store1k {b off : Nat} {L : List Value} {v : Value} (L' : List Value) [tk : TakeB b H (.cells L.toArray e (0, 0)) R] (hx : Opd F x (.pointer (some ⟨b, off, none⟩))) (hy : Opd F y v) (hL : L.set off v = L') (hs : (P.info? t).map (·.size) = some 1) (h1 : v.oneCell' = true)
    (hoff : off < L.length) (h : St n F (Mm c (blk b (.cells L'.toArray e (0, 0)) :: R)) (wpList P ops Q rest)) :
    St n F (Mm c H) (wpList P ops Q ({ dst := none, op := .store t x y, type := ty, pos := pos, after := after, guard := none } :: rest)) := by
  haveI : SetL L off v L' := ⟨hL⟩
  exact St.store1 hx hy hs h1 (Nat.ble_eq_true_of_le hoff) h
def isErr : Value → Bool
  | .iface _ _ => true
  | _ => false
def ErrV (v : Value) : Prop := v = .nilIface ∨ ∃ t p, v = .iface t p
theorem Ev.neNil {er : Value} {u : TypeId} (hx : Opd F x er) (he : ErrV er) (hi : P.isIface t = true) : Ev P n F A (.binOp .neq t x (.const .nilIface) u) ty (.bool (isErr er)) := .of_run fun a w ha _ => by
  rcases he with rfl | ⟨q, p, rfl⟩
  · simp only [execOp, hx.eval ha, (Opd.mk (F := F) (x := .const .nilIface) rfl).eval ha]
    simp [eqGuard, run_neq_nil_nil_at w t hi, isErr]
  · simp only [execOp, hx.eval ha, (Opd.mk (F := F) (x := .const .nilIface) rfl).eval ha]
    simp [eqGuard, run_neq_iface_nil w t hi, isErr]
/-- a text of one byte -/
theorem Ev.str1 {b : Nat} {e' s d : TypeId} {cs : List Value} (ch : UInt8) [hr : InR (.slice (some ⟨b, 0, none⟩) 1 1) H e 1 1 cs] (hx : Opd F x (.slice (some ⟨b, 0, none⟩) 1 1)) (hcs : cs = [.int .u8 (ch.toNat : Int)])
    (hs : P.underlying s = some (.slice e')) (he : P.underlying e' = some (.int .u8)) (hd : P.underlying d = some .string) : Ev P n F (Mm c H) (.convert s d x) ty (sv [ch]) := .of_run fun a w ha hw => by
  obtain ⟨ρ, hm⟩ := hw.out
  obtain ⟨b', h1, h2, h3, _⟩ := row_cell (hm.row hr) (k := 0) (off := 0) (u := .int .u8 (ch.toNat : Int)) (by omega) (by rw [hcs]; rfl)
  have hb : b' = b := by simpa [Value.ownBlock] using h3.symm
  subst hb
  have := run_convert_bytes_back (P := P) w s d e' ⟨b', 0, none⟩ 1 [ch] hs he hd (fun j hj => by
    have : j = 0 := by simpa using hj
    subst this
    simpa [Addr.add_lit] using h2)
  simp only [List.length_singleton] at this
  simp [execOp, hx.eval ha, this]
end
theorem run_buildA {P : Program} {t e : TypeId} {N size : Nat} {Z cs : Array Value} {parts : Array (Nat × Value)} {w : World} (ht : P.underlying t = some (.array N e)) (hz : (P.info? t).bind (fun i => i.zero.map Value.cells) = some Z) (hs : (P.info? e).map (·.size) = some size)
    (hf : Instr.fill (fun i => some (i * size, size)) Z parts.toList = some cs) : (Instr.build t parts).run P w = .ok (.agg cs) w := by
  obtain ⟨i, hi, hz'⟩ := Option.bind_eq_some_iff.1 hz
  obtain ⟨zv, hzv, rfl⟩ := Option.map_eq_some_iff.1 hz'
  obtain ⟨j, hj, hjs⟩ := Option.map_eq_some_iff.1 hs
  subst hjs
  simp [Instr.build, zeroValue, typeInfo, hi, hzv, run_underlying ht, sizeOf, hj, hf]
/-- what holds of the world, whatever else comes into it -/
def Dat.of (X : World → Prop) : Dat := ⟨fun ρ => ∀ w, (∀ k o, ρ k = some o → w.heap[k]? = some o) → X w, fun _ _ h k w hw => k w fun b o hb => hw b o (h b o hb)⟩
theorem FnH.of_calls {P : Program} {f : FuncId} {args : Array Value} {X : World → Prop} {post : Value → List Ent → Prop} (h : ∀ w, X w → Calls P f args w fun e w' => ∃ v, e = .returned v ∧ post v [] ∧ Below w.heap.size w w') :
    FnH P f args ([Dat.of X].map dat) post := by
  intro w ρ hs
  have hx : X w := dat_ok.1 (hs.ents (dat (Dat.of X)) (List.mem_cons_self ..)) w hs.fits
  refine (h w hx).mono ?_
  rintro e w' ⟨v, rfl, hp, hb⟩
  refine ⟨v, [], rfl, hp, Mm.mk (ρ := ρ) ⟨hb.os, hb.tape, hb.output, hb.size, fun k hk _ => hb.block k hk, fun k o hk => ?_, Ro.le_refl _, fun _ _ _ => rfl, fun _ h => by simp at h, fun _ h => by simp at h, .nil⟩⟩
  rw [hb.block k (hs.rlt hk)]
  exact hs.fits k o hk
theorem FnV.of_calls {P : Program} {f : FuncId} {args : Array Value} {X : World → Prop} {v : Value} (h : ∀ w, X w → Calls P f args w fun e w' => e = .returned v ∧ Below w.heap.size w w') : FnV P f args [Dat.of X] v :=
  FnH.of_calls fun w hw => (h w hw).mono fun _ _ ⟨h1, h2⟩ => ⟨v, h1, rfl, h2⟩
end Go.J
