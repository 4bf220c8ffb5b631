/-
  The memory of the walks: what is read only, what the call owns; an assertion is a list of entries that hold apart. Contracts of functions.
  Conditions: none; everything holds of any program.
-/
import Derived.Test.YteahhholjojfbaaDoorJ1
namespace Go.J
open Go

/-- what is read only from here on: block and content -/
abbrev Ro := Nat → Option Obj
def Ro.le (ρ ρ' : Ro) : Prop := ∀ k o, ρ k = some o → ρ' k = some o
theorem Ro.le_refl (ρ : Ro) : ρ.le ρ := fun _ _ h => h
theorem Ro.le_trans {a b c : Ro} (h : a.le b) (k : b.le c) : a.le c := fun _ _ x => k _ _ (h _ _ x)

/-- a fact on what is read only -/
structure Dat where
  f : Ro → Prop
  mono : ∀ ρ ρ', Ro.le ρ ρ' → f ρ → f ρ'

/-- an entry of an assertion: the block that it owns, if any; what it says -/
structure Ent where
  key : Option Nat
  ok : Ro → World → Prop
  loc : ∀ {ρ ρ' w w'}, Ro.le ρ ρ' → (∀ b, key = some b → w'.heap[b]? = w.heap[b]?) → ok ρ w → ok ρ' w'
  lt : ∀ {ρ w b}, ok ρ w → key = some b → b < w.heap.size

@[irreducible] def dat (d : Dat) : Ent := ⟨none, fun ρ _ => d.f ρ, fun h _ k => d.mono _ _ h k, fun _ h => by simp at h⟩
@[irreducible] def blk (b : Nat) (o : Obj) : Ent := ⟨some b, fun _ w => w.heap[b]? = some o, fun _ h k => by rw [h b rfl]; exact k, fun h hb => by
  simp only [Option.some.injEq] at hb
  subst hb
  exact (Array.getElem?_eq_some_iff.1 h).1⟩

theorem ownsRow_loc {w w' : World} {e : TypeId} {size n : Nat} {v : Value} {cs : List Value} (h : ∀ b, v.ownBlock = some b → w'.heap[b]? = w.heap[b]?) (k : w.ownsRow 0 e size v n cs) : w'.ownsRow 0 e size v n cs := by
  obtain ⟨h1, h2⟩ := k
  refine ⟨h1, ?_⟩
  rcases h2 with h2 | ⟨g, cap, cur, rfl, h3, h4, h5⟩
  · exact .inl h2
  · exact .inr ⟨g, cap, cur, rfl, h3, by rw [h g rfl]; exact h4, h5⟩

@[irreducible] def row (v : Value) (e : TypeId) (size n : Nat) (cs : List Value) : Ent := ⟨v.ownBlock, fun _ w => w.ownsRow 0 e size v n cs, fun _ h k => ownsRow_loc h k, fun h hb => (h.lt _ hb).2⟩

theorem dat_key (d : Dat) : (dat d).key = none := by unfold dat; rfl
theorem dat_ok {d : Dat} {ρ : Ro} {w : World} : (dat d).ok ρ w ↔ d.f ρ := by unfold dat; exact Iff.rfl
theorem blk_key (b : Nat) (o : Obj) : (blk b o).key = some b := by unfold blk; rfl
theorem blk_ok {b : Nat} {o : Obj} {ρ : Ro} {w : World} : (blk b o).ok ρ w ↔ w.heap[b]? = some o := by unfold blk; exact Iff.rfl
theorem row_key (v : Value) (e : TypeId) (size n : Nat) (cs : List Value) : (row v e size n cs).key = v.ownBlock := by unfold row; rfl
theorem row_ok {v : Value} {e : TypeId} {size n : Nat} {cs : List Value} {ρ : Ro} {w : World} : (row v e size n cs).ok ρ w ↔ w.ownsRow 0 e size v n cs := by unfold row; exact Iff.rfl

def Apart (E E' : Ent) : Prop := ∀ b, E.key = some b → E'.key ≠ some b
theorem Apart.symm {E E' : Ent} (h : Apart E E') : Apart E' E := fun b h1 h2 => h b h2 h1

def owns (H : List Ent) (b : Nat) : Prop := ∃ E ∈ H, E.key = some b

/-- the call: its world at the start, what was read only then, what it may change of what was there -/
structure Ctx where
  w : World
  ρ : Ro
  M : Nat → Prop

structure MmR (c : Ctx) (H : List Ent) (ρ : Ro) (w : World) : Prop where
  os : w.os = c.w.os
  tape : w.tape = c.w.tape
  output : w.output = c.w.output
  size : c.w.heap.size ≤ w.heap.size
  old : ∀ k, k < c.w.heap.size → ¬ c.M k → w.heap[k]? = c.w.heap[k]?
  fits : ∀ k o, ρ k = some o → w.heap[k]? = some o
  le : Ro.le c.ρ ρ
  new : ∀ k, k < c.w.heap.size → ¬ c.M k → ρ k = c.ρ k
  ents : ∀ E ∈ H, E.ok ρ w
  own : ∀ E ∈ H, ∀ b, E.key = some b → ρ b = none ∧ (c.w.heap.size ≤ b ∨ c.M b)
  dis : H.Pairwise Apart

@[irreducible] def Mm (c : Ctx) (H : List Ent) (w : World) : Prop := ∃ ρ, MmR c H ρ w
theorem Mm.out {c : Ctx} {H : List Ent} {w : World} (h : Mm c H w) : ∃ ρ, MmR c H ρ w := by unfold Mm at h; exact h
theorem Mm.mk {c : Ctx} {H : List Ent} {w : World} {ρ : Ro} (h : MmR c H ρ w) : Mm c H w := by unfold Mm; exact ⟨ρ, h⟩

theorem MmR.lt {c : Ctx} {H : List Ent} {ρ : Ro} {w : World} (h : MmR c H ρ w) {E : Ent} (hE : E ∈ H) {b : Nat} (hb : E.key = some b) : b < w.heap.size := E.lt (h.ents E hE) hb
theorem MmR.rlt {c : Ctx} {H : List Ent} {ρ : Ro} {w : World} (h : MmR c H ρ w) {b : Nat} {o : Obj} (hb : ρ b = some o) : b < w.heap.size := (Array.getElem?_eq_some_iff.1 (h.fits b o hb)).1

/-- A step, or a call, that takes a part of what is owned and gives another for it. -/
theorem MmR.step {c : Ctx} {H1 H2 R : List Ent} {ρ ρ' : Ro} {w w' : World} (h : MmR c (H1 ++ R) ρ w) (k : MmR ⟨w, ρ, owns H1⟩ H2 ρ' w') : MmR c (H2 ++ R) ρ' w' := by
  have hd := List.pairwise_append.1 h.dis
  have keep : ∀ E ∈ R, ∀ b, E.key = some b → w'.heap[b]? = w.heap[b]? := by
    intro E hE b hb
    refine k.old b (h.lt (List.mem_append_right _ hE) hb) ?_
    rintro ⟨E', hE', hb'⟩
    exact hd.2.2 E' hE' E hE b hb' hb
  refine ⟨k.os.trans h.os, k.tape.trans h.tape, k.output.trans h.output, Nat.le_trans h.size k.size, ?_, k.fits, Ro.le_trans h.le k.le, ?_, ?_, ?_, ?_⟩
  · intro i hi hm
    rw [← h.old i hi hm]
    refine k.old i (Nat.lt_of_lt_of_le hi h.size) ?_
    rintro ⟨E, hE, hb⟩
    rcases (h.own E (List.mem_append_left _ hE) i hb).2 with h2 | h2
    · omega
    · exact hm h2
  · intro i hi hm
    rw [← h.new i hi hm]
    refine k.new i (Nat.lt_of_lt_of_le hi h.size) ?_
    rintro ⟨E, hE, hb⟩
    rcases (h.own E (List.mem_append_left _ hE) i hb).2 with h2 | h2
    · omega
    · exact hm h2
  · intro E hE
    rcases List.mem_append.1 hE with hE | hE
    · exact k.ents E hE
    · exact E.loc k.le (keep E hE) (h.ents E (List.mem_append_right _ hE))
  · intro E hE b hb
    rcases List.mem_append.1 hE with hE | hE
    · refine ⟨(k.own E hE b hb).1, ?_⟩
      rcases (k.own E hE b hb).2 with h2 | ⟨E', hE', h2⟩
      · exact .inl (Nat.le_trans h.size h2)
      · exact (h.own E' (List.mem_append_left _ hE') b h2).2
    · have h1 := h.own E (List.mem_append_right _ hE) b hb
      refine ⟨?_, h1.2⟩
      rw [k.new b (h.lt (List.mem_append_right _ hE) hb)]
      · exact h1.1
      · rintro ⟨E', hE', hb'⟩
        exact hd.2.2 E' hE' E hE b hb' hb
  · refine List.pairwise_append.2 ⟨k.dis, hd.2.1, ?_⟩
    intro E hE E' hE' b hb hb'
    rcases (k.own E hE b hb).2 with h2 | ⟨E'', hE'', h2⟩
    · have := h.lt (List.mem_append_right _ hE') hb'
      exact absurd this (by simpa using h2)
    · exact hd.2.2 E'' hE'' E' hE' b h2 hb'

theorem MmR.perm {c : Ctx} {H H' : List Ent} {ρ : Ro} {w : World} (h : MmR c H ρ w) (hp : H.Perm H') : MmR c H' ρ w :=
  ⟨h.os, h.tape, h.output, h.size, h.old, h.fits, h.le, h.new, fun E hE => h.ents E (hp.mem_iff.2 hE), fun E hE => h.own E (hp.mem_iff.2 hE),
    (hp.pairwise_iff fun h => h.symm).1 h.dis⟩

theorem MmR.drop {c : Ctx} {E : Ent} {H : List Ent} {ρ : Ro} {w : World} (h : MmR c (E :: H) ρ w) : MmR c H ρ w :=
  ⟨h.os, h.tape, h.output, h.size, h.old, h.fits, h.le, h.new, fun E hE => h.ents E (List.mem_cons_of_mem _ hE), fun E hE => h.own E (List.mem_cons_of_mem _ hE), (List.pairwise_cons.1 h.dis).2⟩

/-- one fact more, that follows from what is read only -/
theorem MmR.fact {c : Ctx} {H : List Ent} {ρ : Ro} {w : World} (h : MmR c H ρ w) (d : Dat) (hd : d.f ρ) : MmR c (dat d :: H) ρ w :=
  ⟨h.os, h.tape, h.output, h.size, h.old, h.fits, h.le, h.new, fun E hE => by
      rcases List.mem_cons.1 hE with rfl | hE
      · exact dat_ok.2 hd
      · exact h.ents E hE,
    fun E hE b hb => by
      rcases List.mem_cons.1 hE with rfl | hE
      · rw [dat_key] at hb; cases hb
      · exact h.own E hE b hb,
    List.pairwise_cons.2 ⟨fun E _ b hb => (by rw [dat_key] at hb; cases hb), h.dis⟩⟩

theorem MmR.drawn {c : Ctx} {H : List Ent} {ρ : Ro} {w : World} (h : MmR c H ρ w) : MmR c H ρ { w with drawn := w.drawn + 1 } :=
  ⟨h.os, h.tape, h.output, h.size, h.old, h.fits, h.le, h.new, fun E hE => E.loc (w := w) (Ro.le_refl _) (fun _ _ => rfl) (h.ents E hE), h.own, h.dis⟩

theorem Mm.drawn (c : Ctx) (H : List Ent) : Drawn (Mm c H) := fun _ h => let ⟨_, k⟩ := h.out; Mm.mk k.drawn

/-- the start of a call -/
def Start (H : List Ent) (ρ : Ro) (w : World) : Prop := MmR ⟨w, ρ, owns H⟩ H ρ w

theorem MmR.start {c : Ctx} {H R : List Ent} {ρ : Ro} {w : World} (h : MmR c (H ++ R) ρ w) : Start H ρ w :=
  ⟨rfl, rfl, rfl, Nat.le_refl _, fun _ _ _ => rfl, h.fits, Ro.le_refl _, fun _ _ _ => rfl, fun E hE => h.ents E (List.mem_append_left _ hE),
    fun E hE b hb => ⟨(h.own E (List.mem_append_left _ hE) b hb).1, .inr ⟨E, hE, hb⟩⟩, (List.pairwise_append.1 h.dis).1⟩

/-- nothing owned: the start of a call over data alone -/
theorem Start.of_below {ρ : Ro} {w : World} (hf : ∀ k o, ρ k = some o → w.heap[k]? = some o) : Start [] ρ w :=
  ⟨rfl, rfl, rfl, Nat.le_refl _, fun _ _ _ => rfl, hf, Ro.le_refl _, fun _ _ _ => rfl, fun _ h => by simp at h, fun _ h => by simp at h, .nil⟩

/-- A CONTRACT: with these entries at the start the call returns v, with those entries at the end. -/
def FnH (P : Program) (f : FuncId) (args : Array Value) (pre : List Ent) (post : Value → List Ent → Prop) : Prop :=
  ∀ w ρ, Start pre ρ w → Calls P f args w fun e w' => ∃ v H', e = .returned v ∧ post v H' ∧ Mm ⟨w, ρ, owns pre⟩ H' w'

/-- a contract over data alone, with one value as its result -/
def FnV (P : Program) (f : FuncId) (args : Array Value) (ds : List Dat) (v : Value) : Prop := FnH P f args (ds.map dat) fun u _ => u = v

theorem FnH.mono {P : Program} {f : FuncId} {args : Array Value} {pre : List Ent} {post post' : Value → List Ent → Prop} (h : FnH P f args pre post) (hp : ∀ v H, post v H → post' v H) : FnH P f args pre post' :=
  fun w ρ hs => (h w ρ hs).mono fun _ _ ⟨v, H', h1, h2, h3⟩ => ⟨v, H', h1, hp v H' h2, h3⟩

/-- entries that own nothing may stand twice -/
theorem MmR.dats {c : Ctx} {H : List Ent} {ρ : Ro} {w : World} (h : MmR c H ρ w) : ∀ ds : List Dat, (∀ d ∈ ds, d.f ρ) → MmR c (ds.map dat ++ H) ρ w
  | [], _ => h
  | d :: ds, hd => (h.dats ds fun d' h' => hd d' (List.mem_cons_of_mem _ h')).fact d (hd d (List.mem_cons_self ..))

section classes
/-- fact d is at hand -/
class InD (d : Dat) (H : List Ent) : Prop where
  mem : dat d ∈ H
instance (priority := high) InD.here (d : Dat) (H : List Ent) : InD d (dat d :: H) := ⟨List.mem_cons_self ..⟩
instance InD.there (d : Dat) (E : Ent) (H : List Ent) [h : InD d H] : InD d (E :: H) := ⟨List.mem_cons_of_mem _ h.mem⟩

class InDs (ds : List Dat) (H : List Ent) : Prop where
  mem : ∀ d ∈ ds, dat d ∈ H
instance InDs.nil (H : List Ent) : InDs [] H := ⟨fun _ h => by simp at h⟩
instance InDs.cons (d : Dat) (ds : List Dat) (H : List Ent) [h : InD d H] [k : InDs ds H] : InDs (d :: ds) H :=
  ⟨fun d' h' => by rcases List.mem_cons.1 h' with rfl | h'; exact h.mem; exact k.mem d' h'⟩

/-- block b is at hand -/
class InB (b : Nat) (H : List Ent) (o : outParam Obj) : Prop where
  mem : blk b o ∈ H
instance (priority := high) InB.here (b : Nat) (o : Obj) (H : List Ent) : InB b (blk b o :: H) o := ⟨List.mem_cons_self ..⟩
instance InB.there (b : Nat) (o : Obj) (E : Ent) (H : List Ent) [h : InB b H o] : InB b (E :: H) o := ⟨List.mem_cons_of_mem _ h.mem⟩

/-- block b taken out -/
class TakeB (b : Nat) (H : List Ent) (o : outParam Obj) (R : outParam (List Ent)) : Prop where
  perm : H.Perm (blk b o :: R)
instance (priority := high) TakeB.here (b : Nat) (o : Obj) (H : List Ent) : TakeB b (blk b o :: H) o H := ⟨.refl _⟩
instance TakeB.there (b : Nat) (o : Obj) (E : Ent) (H R : List Ent) [h : TakeB b H o R] : TakeB b (E :: H) o (E :: R) := ⟨(h.perm.cons E).trans (.swap ..)⟩

/-- the row of v taken out -/
class TakeR (v : Value) (H : List Ent) (e : outParam TypeId) (size n : outParam Nat) (cs : outParam (List Value)) (R : outParam (List Ent)) : Prop where
  perm : H.Perm (row v e size n cs :: R)
instance (priority := high) TakeR.here (v : Value) (e : TypeId) (size n : Nat) (cs : List Value) (H : List Ent) : TakeR v (row v e size n cs :: H) e size n cs H := ⟨.refl _⟩
instance TakeR.there (v : Value) (e : TypeId) (size n : Nat) (cs : List Value) (E : Ent) (H R : List Ent) [h : TakeR v H e size n cs R] : TakeR v (E :: H) e size n cs (E :: R) := ⟨(h.perm.cons E).trans (.swap ..)⟩

/-- an entry taken out -/
class TakeE (E : Ent) (H : List Ent) (R : outParam (List Ent)) : Prop where
  perm : H.Perm (E :: R)
instance (priority := high) TakeE.here (E : Ent) (H : List Ent) : TakeE E (E :: H) H := ⟨.refl _⟩
instance TakeE.there (E E' : Ent) (H R : List Ent) [h : TakeE E H R] : TakeE E (E' :: H) (E' :: R) := ⟨(h.perm.cons E').trans (.swap ..)⟩

/-- these entries taken out, in this order; R is left -/
class TakeL (L H : List Ent) (R : outParam (List Ent)) : Prop where
  perm : H.Perm (L ++ R)
instance TakeL.nil (H : List Ent) : TakeL [] H H := ⟨.refl _⟩
instance TakeL.cons (E : Ent) (L H R R' : List Ent) [h : TakeE E H R] [k : TakeL L R R'] : TakeL (E :: L) H R' := ⟨h.perm.trans (k.perm.cons E)⟩
end classes

theorem Mm.take {c : Ctx} {L H R : List Ent} {w : World} [t : TakeL L H R] (h : Mm c H w) : Mm c (L ++ R) w := let ⟨_, k⟩ := h.out; Mm.mk (k.perm t.perm)
theorem MmR.left {c : Ctx} {L R : List Ent} {ρ : Ro} {w : World} (h : MmR c (L ++ R) ρ w) : MmR c L ρ w := by
  induction R generalizing L with
  | nil => simpa using h
  | cons E R ih => exact ih (h.perm List.perm_middle).drop
theorem Mm.sub {c : Ctx} {L H R : List Ent} {w : World} [t : TakeL L H R] (h : Mm c H w) : Mm c L w := let ⟨_, k⟩ := h.out; Mm.mk (k.perm t.perm).left

/-- facts in any number, some of them twice -/
theorem Mm.fact {c : Ctx} {H : List Ent} {w : World} (h : Mm c H w) (d : Dat) (hd : ∀ ρ, MmR c H ρ w → d.f ρ) : Mm c (dat d :: H) w := let ⟨_, k⟩ := h.out; Mm.mk (k.fact d (hd _ k))

section
variable {P : Program} {n : Nat} {F : Fr} {c : Ctx} {H R : List Ent} {Q : Exit → Act → World → Prop} {ops : Array Oper} {T : Act → World → Prop}

theorem St.fact (d : Dat) (hd : ∀ ρ w, MmR c H ρ w → d.f ρ) (h : St n F (Mm c (dat d :: H)) T) : St n F (Mm c H) T :=
  h.weak fun _ hw => hw.fact d fun ρ k => hd ρ _ k

theorem St.sub (L : List Ent) [t : TakeL L H R] (h : St n F (Mm c L) T) : St n F (Mm c H) T := h.weak fun _ hw => hw.sub
theorem St.take (L : List Ent) [t : TakeL L H R] (h : St n F (Mm c (L ++ R)) T) : St n F (Mm c H) T := h.weak fun _ hw => hw.take

theorem St.app0 (h : St n F (Mm c R) T) : St n F (Mm c ([] ++ R)) T := h
theorem St.app1 {a : Ent} (h : St n F (Mm c (a :: R)) T) : St n F (Mm c ([a] ++ R)) T := h
theorem St.app2 {a b : Ent} (h : St n F (Mm c (a :: b :: R)) T) : St n F (Mm c ([a, b] ++ R)) T := h
theorem St.app3 {a b d : Ent} (h : St n F (Mm c (a :: b :: d :: R)) T) : St n F (Mm c ([a, b, d] ++ R)) T := h
theorem St.app4 {a b d e : Ent} (h : St n F (Mm c (a :: b :: d :: e :: R)) T) : St n F (Mm c ([a, b, d, e] ++ R)) T := h

/-- an operation that turns the world: its law -/
def Do (P : Program) (n : Nat) (F : Fr) (c : Ctx) (H : List Ent) (op : Op) (ty : TypeId) (K : Value → List Ent → Prop) : Prop :=
  ∀ a w ρ, Has n a F → MmR c H ρ w → ∃ v w' ρ' H', (execOp a.eval (bare op ty)).run P w = .ok v w' ∧ (∃ u, (v = .value u ∨ (v = .skip ∧ u = undef)) ∧ K u H') ∧ MmR c H' ρ' w'

theorem Do.wp {op : Op} {ty : TypeId} {K : Value → List Ent → Prop} (h : Do P n F c H op ty K) {d : Option Tmp} {pos : String} {after : Array Edge} {g : Option (Nat × Bool)} {a : Act} {w : World}
    (ha : Has n a F) (hw : Mm c H w) {J : Act → World → Prop} (hk : ∀ u H' w', K u H' → Mm c H' w' → J (a.put d u) w') :
    ({ dst := d, op := op, type := ty, pos := pos, after := after, guard := g } : Oper).wp P a w J Q := by
  obtain ⟨ρ, hm⟩ := hw.out
  obtain ⟨v, w', ρ', H', hr, ⟨u, hv, hK⟩, hm'⟩ := h a w ρ ha hm
  unfold Oper.wp Oper.upon
  rw [execOp_bare]
  simp only at hr ⊢
  rw [hr]
  rcases hv with rfl | ⟨rfl, rfl⟩
  · exact hk _ _ _ hK (Mm.mk hm')
  · exact hk _ _ _ hK (Mm.mk hm')

theorem St.do_ {d : Nat} {op : Op} {ty : TypeId} {pos : String} {after : Array Edge} {rest : List Oper} {K : Value → List Ent → Prop} (hev : Do P n F c H op ty K) (hd : Nat.ble (d + 1) n = true)
    (h : ∀ v H', K v H' → St n ((d, v) :: F) (Mm c H') (wpList P ops Q rest)) :
    St n F (Mm c H) (wpList P ops Q ({ dst := some d, op := op, type := ty, pos := pos, after := after, guard := none } :: rest)) :=
  fun _ _ ha hw => wpList_wp rfl (hev.wp ha hw fun u H' w' hK hw' => h u H' hK _ w' (ha.put (Nat.le_of_ble_eq_true hd) u) hw')

theorem St.do_none {op : Op} {ty : TypeId} {pos : String} {after : Array Edge} {rest : List Oper} {K : Value → List Ent → Prop} (hev : Do P n F c H op ty K)
    (h : ∀ v H', K v H' → St n F (Mm c H') (wpList P ops Q rest)) :
    St n F (Mm c H) (wpList P ops Q ({ dst := none, op := op, type := ty, pos := pos, after := after, guard := none } :: rest)) :=
  fun _ _ ha hw => wpList_wp rfl (hev.wp ha hw fun u H' w' hK hw' => h u H' hK _ w' (ha.put_none u) hw')

end

/-- the arguments' slots -/
def argF : Nat → List Value → Fr
  | _, [] => []
  | k, v :: vs => (k, v) :: argF (k + 1) vs

theorem argF_look {t : Nat} {v : Value} : ∀ (l : List Value) (i : Nat), look (argF i l) t = some v → i ≤ t ∧ l[t - i]? = some v
  | [], i, h => by simp [argF, look] at h
  | x :: l, i, h => by
    simp only [argF, look] at h
    cases hb : Nat.beq t i with
    | true =>
      have e : t = i := Nat.eq_of_beq_eq_true hb
      subst e
      simp only [hb, cond_true, Option.some.injEq] at h
      subst h
      simp
    | false =>
      have e : t ≠ i := Nat.ne_of_beq_eq_false hb
      simp only [hb, cond_false] at h
      obtain ⟨h1, h2⟩ := argF_look l (i + 1) h
      refine ⟨by omega, ?_⟩
      have : t - i = (t - (i + 1)) + 1 := by omega
      rw [this, List.getElem?_cons_succ]
      exact h2

/-- THE BODY OF A CONTRACT -/
theorem FnH.body {P : Program} {f : FuncId} {fn : Func} {cd : Code} {args : List Value} {pre : List Ent} {post : Value → List Ent → Prop} (n : Nat)
    (hf : P.funcs[f]? = some fn) (hb : fn.body = some cd) (hn : fn.ntmps = n) (hargs : Nat.ble args.length n = true)
    (h : ∀ c : Ctx, St n (argF 0 args) (Mm c pre) (cd.wp P (bodyPost P fn fun e w' => ∃ v H', e = .returned v ∧ post v H' ∧ Mm c H' w'))) :
    FnH P f args.toArray pre post := by
  intro w ρ hs
  refine calls_of_wp hf hb (h ⟨w, ρ, owns pre⟩ _ w ⟨?_, rfl, ?_⟩ (Mm.mk hs))
  · have := Nat.le_of_ble_eq_true hargs
    simp [hn]
    omega
  · intro t v ht
    obtain ⟨_, h2⟩ := argF_look args 0 ht
    simp only [Nat.sub_zero] at h2
    have hlt : t < args.length := (List.getElem?_eq_some_iff.1 h2).1
    simp only [List.size_toArray, Array.getElem?_append, hlt, if_true]
    simpa using h2

/-- the same for a contract over data alone with one value -/
theorem FnV.body0 {P : Program} {f : FuncId} {fn : Func} {cd : Code} {args : List Value} {u : Value} (n : Nat)
    (hf : P.funcs[f]? = some fn) (hb : fn.body = some cd) (hn : fn.ntmps = n) (hargs : Nat.ble args.length n = true)
    (h : ∀ c : Ctx, St n (argF 0 args) (Mm c []) (cd.wp P (bodyPost P fn fun e w' => ∃ v H', e = .returned v ∧ v = u ∧ Mm c H' w'))) : FnV P f args.toArray [] u := FnH.body n hf hb hn hargs h
theorem FnV.body1 {P : Program} {f : FuncId} {fn : Func} {cd : Code} {args : List Value} {u : Value} {d1 : Dat} (n : Nat)
    (hf : P.funcs[f]? = some fn) (hb : fn.body = some cd) (hn : fn.ntmps = n) (hargs : Nat.ble args.length n = true)
    (h : ∀ c : Ctx, St n (argF 0 args) (Mm c [dat d1]) (cd.wp P (bodyPost P fn fun e w' => ∃ v H', e = .returned v ∧ v = u ∧ Mm c H' w'))) : FnV P f args.toArray [d1] u := FnH.body n hf hb hn hargs h
theorem FnV.body2 {P : Program} {f : FuncId} {fn : Func} {cd : Code} {args : List Value} {u : Value} {d1 d2 : Dat} (n : Nat)
    (hf : P.funcs[f]? = some fn) (hb : fn.body = some cd) (hn : fn.ntmps = n) (hargs : Nat.ble args.length n = true)
    (h : ∀ c : Ctx, St n (argF 0 args) (Mm c [dat d1, dat d2]) (cd.wp P (bodyPost P fn fun e w' => ∃ v H', e = .returned v ∧ v = u ∧ Mm c H' w'))) : FnV P f args.toArray [d1, d2] u := FnH.body n hf hb hn hargs h
theorem FnV.body3 {P : Program} {f : FuncId} {fn : Func} {cd : Code} {args : List Value} {u : Value} {d1 d2 d3 : Dat} (n : Nat)
    (hf : P.funcs[f]? = some fn) (hb : fn.body = some cd) (hn : fn.ntmps = n) (hargs : Nat.ble args.length n = true)
    (h : ∀ c : Ctx, St n (argF 0 args) (Mm c [dat d1, dat d2, dat d3]) (cd.wp P (bodyPost P fn fun e w' => ∃ v H', e = .returned v ∧ v = u ∧ Mm c H' w'))) : FnV P f args.toArray [d1, d2, d3] u := FnH.body n hf hb hn hargs h
theorem FnV.body4 {P : Program} {f : FuncId} {fn : Func} {cd : Code} {args : List Value} {u : Value} {d1 d2 d3 d4 : Dat} (n : Nat)
    (hf : P.funcs[f]? = some fn) (hb : fn.body = some cd) (hn : fn.ntmps = n) (hargs : Nat.ble args.length n = true)
    (h : ∀ c : Ctx, St n (argF 0 args) (Mm c [dat d1, dat d2, dat d3, dat d4]) (cd.wp P (bodyPost P fn fun e w' => ∃ v H', e = .returned v ∧ v = u ∧ Mm c H' w'))) : FnV P f args.toArray [d1, d2, d3, d4] u := FnH.body n hf hb hn hargs h

theorem FnV.body1s {P : Program} {f : FuncId} {fn : Func} {cd : Code} {args : List Value} {u : Value} {d1 : Dat} {ds : List Dat} (n : Nat)
    (hf : P.funcs[f]? = some fn) (hb : fn.body = some cd) (hn : fn.ntmps = n) (hargs : Nat.ble args.length n = true)
    (h : ∀ c : Ctx, St n (argF 0 args) (Mm c (dat d1 :: ds.map dat)) (cd.wp P (bodyPost P fn fun e w' => ∃ v H', e = .returned v ∧ v = u ∧ Mm c H' w'))) : FnV P f args.toArray (d1 :: ds) u := FnH.body n hf hb hn hargs h
theorem FnH.bodyd1 {P : Program} {f : FuncId} {fn : Func} {cd : Code} {args : List Value} {post : Value → List Ent → Prop} {d1 : Dat} (n : Nat)
    (hf : P.funcs[f]? = some fn) (hb : fn.body = some cd) (hn : fn.ntmps = n) (hargs : Nat.ble args.length n = true)
    (h : ∀ c : Ctx, St n (argF 0 args) (Mm c [dat d1]) (cd.wp P (bodyPost P fn fun e w' => ∃ v H', e = .returned v ∧ post v H' ∧ Mm c H' w'))) : FnH P f args.toArray ([d1].map dat) post := FnH.body n hf hb hn hargs h
theorem FnH.bodyd2 {P : Program} {f : FuncId} {fn : Func} {cd : Code} {args : List Value} {post : Value → List Ent → Prop} {d1 d2 : Dat} (n : Nat)
    (hf : P.funcs[f]? = some fn) (hb : fn.body = some cd) (hn : fn.ntmps = n) (hargs : Nat.ble args.length n = true)
    (h : ∀ c : Ctx, St n (argF 0 args) (Mm c [dat d1, dat d2]) (cd.wp P (bodyPost P fn fun e w' => ∃ v H', e = .returned v ∧ post v H' ∧ Mm c H' w'))) : FnH P f args.toArray ([d1, d2].map dat) post := FnH.body n hf hb hn hargs h

theorem Sub.nil {F : Fr} : Sub [] F := trivial
theorem Sub.cons {F F' : Fr} {k : Nat} {v : Value} (h : J.look F k = some v) (h' : Sub F' F) : Sub ((k, v) :: F') F := ⟨h, h'⟩

/-- what a result variable holds -/
def RV (P : Program) (F : Fr) (H : List Ent) : ResultVar → Value → Prop
  | .tmp t, v => look F t = some v
  | .cell t ty, v => ∃ b C e fr, look F t = some (.pointer (some ⟨b, 0, none⟩)) ∧ blk b (.cells C e fr) ∈ H ∧
      ((∃ fs, P.underlying ty = some (.struct fs)) ∧ (P.info? ty).map (·.size) = some C.size ∧ v = .agg C ∨
       (match P.underlying ty with | some (.struct _) | some (.array _ _) | none => False | some _ => True) ∧ C[0]? = some v)

theorem cell?_of_blk {w : World} {b off : Nat} {C : Array Value} {e : TypeId} {fr : Nat × Nat} (h : w.heap[b]? = some (.cells C e fr)) : w.cell? ⟨b, off, none⟩ = C[off]? := by
  simp [World.cell?, h]

theorem run_loadVar_agg {P : Program} {w : World} {ty : TypeId} {b off : Nat} {L : List Value} {d : TypeDesc} (hd : P.underlying ty = some d) (hk : (match d with | .struct _ | .array _ _ => True | _ => False))
    (hs : (P.info? ty).map (·.size) = some L.length) (hL : ∀ j v, L[j]? = some v → w.cell? ⟨b, off + j, none⟩ = some v) : (loadVar ty ⟨b, off, none⟩).run P w = .ok (.agg L.toArray) w := by
  obtain ⟨i, hi, hsz⟩ := Option.map_eq_some_iff.1 hs
  have h1 := run_loadCells_list (P := P) w ⟨b, off, none⟩ L (fun j v h => by rw [Addr.add_lit]; exact hL j v h)
  have h2 : (isAgg ty).run P w = .ok true w := by
    cases d <;> simp at hk <;> simp [isAgg, run_underlying hd]
  simp [loadVar, h2, sizeOf, typeInfo, hi, hsz, h1]

theorem run_loadVar_one {P : Program} {w : World} {ty : TypeId} {a : Addr} {v : Value} {d : TypeDesc} (hd : P.underlying ty = some d) (hk : (match d with | .struct _ | .array _ _ => False | _ => True))
    (hv : w.cell? a = some v) : (loadVar ty a).run P w = .ok v w := by
  have h2 : (isAgg ty).run P w = .ok false w := by
    cases d <;> simp at hk <;> simp [isAgg, run_underlying hd]
  simp [loadVar, h2, hv]

def rvSem (a : Act) : ResultVar → Sem Value
  | .tmp t => pure (a.tmps.getD t undef)
  | .cell t ty => do loadVar ty (← asAddr (a.tmps.getD t undef))

theorem RV.run {P : Program} {n : Nat} {F : Fr} {H : List Ent} {r : ResultVar} {v : Value} (h : RV P F H r v) {a : Act} (ha : Has n a F) {c : Ctx} {w : World} (hw : Mm c H w) :
    (rvSem a r).run P w = .ok v w := by
  obtain ⟨ρ, hm⟩ := hw.out
  cases r with
  | tmp t => simp [RV] at h; simp [rvSem, Array.getD_eq_getD_getElem?, ha.slot _ _ h]
  | cell t ty =>
    obtain ⟨b, C, e, fr, h1, h2, h3⟩ := h
    have hb := blk_ok.1 (hm.ents _ h2)
    have hc : ∀ off, w.cell? ⟨b, off, none⟩ = C[off]? := fun off => cell?_of_blk hb
    have ht := ha.slot _ _ h1
    simp only [rvSem, Array.getD_eq_getD_getElem?, ht, Option.getD_some, asAddr, Sem.run_bind, Sem.run_pure, Result.andThen_ok]
    rcases h3 with ⟨⟨fs, h4⟩, h5, rfl⟩ | ⟨h4, h5⟩
    · have := run_loadVar_agg (P := P) (w := w) (ty := ty) (b := b) (off := 0) (L := C.toList) h4 trivial (by simpa using h5) (fun j v hj => by rw [hc, Nat.zero_add]; simpa using hj)
      simpa using this
    · cases hd : P.underlying ty with
      | none => rw [hd] at h4; exact h4.elim
      | some d => rw [hd] at h4; exact run_loadVar_one hd (by cases d <;> simp_all) (by rw [hc]; exact h5)

def RVs (P : Program) (F : Fr) (H : List Ent) : List ResultVar → List Value → Prop
  | [], [] => True
  | r :: rs, v :: vs => RV P F H r v ∧ RVs P F H rs vs
  | _, _ => False

theorem RVs.run {P : Program} {n : Nat} {F : Fr} {H : List Ent} {a : Act} (ha : Has n a F) {c : Ctx} {w : World} (hw : Mm c H w) : ∀ {rs : List ResultVar} {vs : List Value}, RVs P F H rs vs →
    (rs.mapM (rvSem a)).run P w = .ok vs w
  | [], [], _ => by simp
  | r :: rs, v :: vs, h => by
    have h1 := RV.run h.1 ha hw
    have h2 := RVs.run ha hw h.2
    simp only [List.mapM_cons, Sem.run_bind, h1, Result.andThen_ok, h2, Sem.run_pure]

def ret1 : List Value → Value
  | [v] => v
  | vs => .tuple vs.toArray

theorem results_eq (fn : Func) (a : Act) : results fn a.tmps = (fn.results.mapM (rvSem a) >>= fun vs => pure (if h : vs.size = 1 then vs[0] else .tuple vs)) := by
  unfold results
  congr 2

/-- the end of a body -/
theorem St.rets {P : Program} {n : Nat} {F : Fr} {c : Ctx} {H : List Ent} {fn : Func} {post : Value → List Ent → Prop} {rl : List ResultVar} (vs : List Value) (H' : List Ent)
    (hr : fn.results = rl.toArray) (hv : RVs P F H rl vs) (hp : post (ret1 vs) H') (hH : ∀ w, Mm c H w → Mm c H' w) :
    St n F (Mm c H) (bodyPost P fn (fun e w' => ∃ v H', e = .returned v ∧ post v H' ∧ Mm c H' w') .ret) := by
  intro a w ha hw
  refine ⟨ha.defers, _, ?_, _, H', rfl, hp, hH w hw⟩
  have h2 := RVs.run ha hw hv
  rw [results_eq, hr]
  simp only [List.mapM_toArray, Sem.run_bind, Sem.run_map, h2, Result.andThen_ok, Sem.run_pure]
  congr 1
  cases vs with
  | nil => rfl
  | cons v vs => cases vs <;> rfl

theorem St.rets_normal {P : Program} {n : Nat} {F : Fr} {c : Ctx} {H : List Ent} {fn : Func} {R : Ending → World → Prop}
    (h : St n F (Mm c H) (bodyPost P fn R .ret)) : St n F (Mm c H) (bodyPost P fn R .normal) := h

end Go.J
