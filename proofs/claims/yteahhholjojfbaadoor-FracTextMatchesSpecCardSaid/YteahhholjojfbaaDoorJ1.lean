/-
  The frame of the walks: judgements over partial frames (which slots are known) and assertions on worlds; the rules for sequences, tests, blocks, loops, regions.
  Conditions: none; everything holds of any program.
-/
import Derived.WalkKit
import Derived.Deep.Quiet
import Derived.Deep.LoopGhost
namespace Go.J
open Go

/-- what is known of the frame: slot and value, the newest first -/
abbrev Fr := List (Nat × Value)

def look : Fr → Nat → Option Value
  | [], _ => none
  | (k, v) :: F, t => bif Nat.beq t k then some v else look F t

def vl (F : Fr) : Operand → Option Value
  | .tmp t => look F t
  | .const v => some v
  | .func f => some (.func (.func f) #[] #[])
  | .global g => some (.pointer (some ⟨g, 0, none⟩))

structure Has (n : Nat) (a : Act) (F : Fr) : Prop where
  size : a.tmps.size = n
  defers : a.defers = []
  slot : ∀ t v, look F t = some v → a.tmps[t]? = some v

theorem Has.eval {n : Nat} {a : Act} {F : Fr} {x : Operand} {v : Value} (h : Has n a F) (hx : vl F x = some v) : a.eval x = v := by
  cases x with
  | tmp t => simp only [vl] at hx; simp [Act.eval, Array.getD_eq_getD_getElem?, h.slot _ _ hx]
  | const u => simp only [vl, Option.some.injEq] at hx; exact hx
  | func f => simp only [vl, Option.some.injEq] at hx; exact hx
  | global g => simp only [vl, Option.some.injEq] at hx; exact hx

theorem Has.put {n : Nat} {a : Act} {F : Fr} (h : Has n a F) {d : Nat} (hd : d < n) (v : Value) : Has n (a.put (some d) v) ((d, v) :: F) := by
  refine ⟨by simp [Act.put, h.size], by simp [Act.put, h.defers], fun t u hu => ?_⟩
  simp only [look] at hu
  cases hb : Nat.beq t d with
  | true =>
    have e : t = d := Nat.eq_of_beq_eq_true hb
    subst e
    simp only [hb, cond_true, Option.some.injEq] at hu
    subst hu
    simp [Act.put, h.size, hd]
  | false =>
    have e : t ≠ d := Nat.ne_of_beq_eq_false hb
    simp only [hb, cond_false] at hu
    simp [Act.put, Ne.symm e, h.slot _ _ hu]

theorem Has.put_none {n : Nat} {a : Act} {F : Fr} (h : Has n a F) (v : Value) : Has n (a.put none v) F := h

/-- the known slots of F' are known to F -/
def Sub : Fr → Fr → Prop
  | [], _ => True
  | (k, v) :: F', F => look F k = some v ∧ Sub F' F

theorem Sub.look {F' F : Fr} (h : Sub F' F) : ∀ t v, look F' t = some v → J.look F t = some v := by
  induction F' with
  | nil => intro t v hv; simp [J.look] at hv
  | cons p F' ih =>
    obtain ⟨k, u⟩ := p
    intro t v hv
    simp only [J.look] at hv
    cases hb : Nat.beq t k with
    | true =>
      have e : t = k := Nat.eq_of_beq_eq_true hb
      subst e
      simp only [hb, cond_true, Option.some.injEq] at hv
      subst hv
      exact h.1
    | false =>
      simp only [hb, cond_false] at hv
      exact ih h.2 t v hv

theorem Has.sub {n : Nat} {a : Act} {F F' : Fr} (h : Has n a F) (hs : Sub F' F) : Has n a F' := ⟨h.size, h.defers, fun t v hv => h.slot t v (hs.look t v hv)⟩

/-- from what is known of frame and world the target follows -/
def St (n : Nat) (F : Fr) (A : World → Prop) (T : Act → World → Prop) : Prop := ∀ a w, Has n a F → A w → T a w

section
variable {P : Program} {n : Nat} {F : Fr} {A : World → Prop} {Q : Exit → Act → World → Prop} {ops : Array Oper}

theorem St.conv {A' : World → Prop} {F' : Fr} {T : Act → World → Prop} (hF : Sub F' F) (hA : ∀ w, A w → A' w) (h : St n F' A' T) : St n F A T :=
  fun a w ha hw => h a w (ha.sub hF) (hA w hw)

theorem St.weak {A' : World → Prop} {T : Act → World → Prop} (hA : ∀ w, A w → A' w) (h : St n F A' T) : St n F A T :=
  fun a w ha hw => h a w ha (hA w hw)

theorem St.ex {ι : Sort _} {B : ι → World → Prop} {T : Act → World → Prop} (h : ∀ x, St n F (B x) T) : St n F (fun w => ∃ x, B x w) T :=
  fun a w ha ⟨x, hx⟩ => h x a w ha hx

theorem St.prop {p : Prop} {T : Act → World → Prop} (hp : ∀ w, A w → p) (h : p → St n F A T) : St n F A T :=
  fun a w ha hw => h (hp w hw) a w ha hw

theorem St.and {p : Prop} {T : Act → World → Prop} (h : p → St n F A T) : St n F (fun w => p ∧ A w) T :=
  fun a w ha hw => h hw.1 a w ha hw.2

theorem St.seq {x y : Code} (h : St n F A (x.wp P (Exit.then (y.wp P Q) Q))) : St n F A ((Code.seq x y).wp P Q) :=
  fun a w ha hw => wp_seq (h a w ha hw)

/-- the rest of a sequence behind a variable -/
theorem St.seqk {x y : Code} (h : ∀ K : Act → World → Prop, (∀ F' A', St n F' A' (y.wp P Q) → St n F' A' K) → St n F A (x.wp P (Exit.then K Q))) :
    St n F A ((Code.seq x y).wp P Q) := St.seq (h _ fun _ _ h => h)

theorem St.skip (h : St n F A (Q .normal)) : St n F A (Code.skip.wp P Q) := fun a w ha hw => wp_skip (h a w ha hw)
theorem St.rett (h : St n F A (Q .ret)) : St n F A (Code.ret.wp P Q) := fun a w ha hw => wp_ret (h a w ha hw)
theorem St.exit {id : Nat} (h : St n F A (Q (.exit id))) : St n F A ((Code.exit id).wp P Q) := fun a w ha hw => wp_exit (h a w ha hw)
theorem St.block {id : Nat} {c : Code} (h : St n F A (c.wp P (Exit.inBlock id Q))) : St n F A ((Code.block id c).wp P Q) :=
  fun a w ha hw => wp_block (h a w ha hw)

theorem St.cond {c : Operand} {x y : Code} (t : Bool) (hc : vl F c = some (.bool t)) (ht : t = true → St n F A (x.wp P Q)) (hf : t = false → St n F A (y.wp P Q)) :
    St n F A ((Code.cond c x y).wp P Q) :=
  fun a w ha hw => wp_cond_split (ha.eval hc) (fun h => ht h a w ha hw) (fun h => hf h a w ha hw)
theorem St.condt {c : Operand} {x y : Code} (t : Bool) (hc : vl F c = some (.bool t)) (h : t = true) (ht : St n F A (x.wp P Q)) :
    St n F A ((Code.cond c x y).wp P Q) :=
  fun a w ha hw => wp_cond_true (by rw [ha.eval hc, h]) (ht a w ha hw)
theorem St.condf {c : Operand} {x y : Code} (t : Bool) (hc : vl F c = some (.bool t)) (h : t = false) (hf : St n F A (y.wp P Q)) :
    St n F A ((Code.cond c x y).wp P Q) :=
  fun a w ha hw => wp_cond_false (by rw [ha.eval hc, h]) (hf a w ha hw)

/-- what an exit comes to -/
theorem St.then_normal {K : Act → World → Prop} (h : St n F A K) : St n F A (Exit.then K Q .normal) := h
theorem St.then_exit {K : Act → World → Prop} {id : Nat} (h : St n F A (Q (.exit id))) : St n F A (Exit.then K Q (.exit id)) := h
theorem St.then_ret {K : Act → World → Prop} (h : St n F A (Q .ret)) : St n F A (Exit.then K Q .ret) := h
theorem St.in_normal {id : Nat} (h : St n F A (Q .normal)) : St n F A (Exit.inBlock id Q .normal) := h
theorem St.in_ret {id : Nat} (h : St n F A (Q .ret)) : St n F A (Exit.inBlock id Q .ret) := h
theorem St.in_hit {id : Nat} (h : St n F A (Q .normal)) : St n F A (Exit.inBlock id Q (.exit id)) := by
  intro a w ha hw
  simp only [Exit.inBlock, if_true]
  exact h a w ha hw
theorem St.in_miss {id id' : Nat} (hne : Nat.beq id' id = false) (h : St n F A (Q (.exit id'))) : St n F A (Exit.inBlock id Q (.exit id')) := by
  intro a w ha hw
  simp only [Exit.inBlock, if_neg (Nat.ne_of_beq_eq_false hne)]
  exact h a w ha hw

/-- a loop: at each head some x holds; every round lowers its measure -/
theorem St.loop {ι : Type _} {body : Code} (Fi : ι → Fr) (Ai : ι → World → Prop) (μ : ι → Nat) (x₀ : ι) (hF : Sub (Fi x₀) F) (hA : ∀ w, A w → Ai x₀ w)
    (round : ∀ x, St n (Fi x) (Ai x) (body.wp P (Exit.then (fun a' w' => ∃ y, μ y < μ x ∧ Has n a' (Fi y) ∧ Ai y w') Q))) :
    St n F A ((Code.loop body).wp P Q) := by
  intro a w ha hw
  refine wp_loop_ghost (fun k a w => ∃ x, μ x = k ∧ Has n a (Fi x) ∧ Ai x w) (μ x₀) ⟨x₀, rfl, ha.sub hF, hA w hw⟩ ?_
  rintro k a w ⟨x, rfl, hx, hAx⟩
  refine wp_mono (round x a w hx hAx) ?_
  intro e a' w' hq
  cases e with
  | normal => obtain ⟨y, h1, h2, h3⟩ := hq; exact ⟨μ y, h1, y, rfl, h2, h3⟩
  | exit id => exact hq
  | goto l => exact hq
  | ret => exact hq
  | panic ch => exact hq
  | outgrown => exact hq

/-- a round's end -/
theorem St.again {ι : Type _} {Fi : ι → Fr} {Ai : ι → World → Prop} {μ : ι → Nat} {k : Nat} (y : ι) (hm : μ y < k) (hF : Sub (Fi y) F) (hA : ∀ w, A w → Ai y w) :
    St n F A (fun a' w' => ∃ y, μ y < k ∧ Has n a' (Fi y) ∧ Ai y w') :=
  fun _ w ha hw => ⟨y, hm, ha.sub hF, hA w hw⟩

theorem St.rg {id : Nat} {l : List Oper} (h : St n F A (wpList P l.toArray Q l)) : St n F A ((Code.region id l.toArray false).wp P Q) :=
  fun a w ha hw => wp_region_lit (h a w ha hw)

theorem St.nil (h : St n F A (Q .normal)) : St n F A (wpList P ops Q []) := h

/-- an operation, without what does not matter for what it does -/
abbrev bare (op : Op) (ty : TypeId) : Oper := { dst := none, op := op, type := ty, pos := "", after := #[], guard := none }

theorem execOp_bare (ρ : Operand → Value) (o : Oper) : execOp ρ o = execOp ρ (bare o.op o.type) := by
  obtain ⟨d, op, ty, p, af, g⟩ := o
  cases op <;> rfl

/-- the operation yields the value v, whatever the frame and world, and keeps the assertion -/
def Ev (P : Program) (n : Nat) (F : Fr) (A : World → Prop) (op : Op) (ty : TypeId) (v : Value) : Prop :=
  ∀ a w, Has n a F → A w → Oper.quietUpon P A w v ((execOp a.eval (bare op ty)).run P w)

set_option linter.unusedVariables false
theorem Ev.quietAt {op : Op} {ty : TypeId} {v : Value} (h : Ev P n F A op ty v) {d : Option Tmp} {pos : String} {after : Array Edge} {g : Option (Nat × Bool)} {a : Act} {w : World}
    (ha : Has n a F) (hw : A w) : ({ dst := d, op := op, type := ty, pos := pos, after := after, guard := g } : Oper).quietAt P a A w v := by
  unfold Oper.quietAt
  rw [execOp_bare]
  exact h a w ha hw

theorem Ev.wp {op : Op} {ty : TypeId} {v : Value} (h : Ev P n F A op ty v) {d : Option Tmp} {pos : String} {after : Array Edge} {g : Option (Nat × Bool)} {a : Act} {w : World}
    (ha : Has n a F) (hw : A w) {K : Act → World → Prop} (hk : ∀ w', A w' → K (a.put d v) w') :
    ({ dst := d, op := op, type := ty, pos := pos, after := after, guard := g } : Oper).wp P a w K Q := by
  unfold Oper.wp Oper.upon
  rw [execOp_bare]
  have hh := h a w ha hw
  simp only at hh ⊢
  generalize (execOp a.eval (bare op ty)).run P w = r at hh
  cases r with
  | ok nx w' =>
    cases nx <;> simp only [Oper.quietUpon] at hh <;> (try exact hh.elim)
    · obtain ⟨rfl, rfl⟩ := hh; exact hk _ hw
    · obtain ⟨rfl, rfl⟩ := hh; exact hk _ hw
    · obtain ⟨rfl, hc⟩ := hh
      exact hc.mono fun e w'' he => by
        obtain ⟨rfl, hA⟩ := he
        exact hk _ hA
  | halt x w' => simp only [Oper.quietUpon] at hh

theorem wpList_wp {o : Oper} {rest : List Oper} {a : Act} {w : World} (hg : o.guard = none) (h : o.wp P a w (wpList P ops Q rest) Q) : wpList P ops Q (o :: rest) a w := by
  simp only [wpList, Region.wanted, hg, if_true]
  exact .inl h

theorem St.ev {d : Nat} {op : Op} {ty : TypeId} {pos : String} {after : Array Edge} {rest : List Oper} (v : Value) (hev : Ev P n F A op ty v) (hd : Nat.ble (d + 1) n = true)
    (h : St n ((d, v) :: F) A (wpList P ops Q rest)) :
    St n F A (wpList P ops Q ({ dst := some d, op := op, type := ty, pos := pos, after := after, guard := none } :: rest)) :=
  fun a w ha hw => wpList_wp rfl (hev.wp ha hw fun w' hw' => h _ w' (ha.put (Nat.le_of_ble_eq_true hd) v) hw')

theorem St.ev_none {op : Op} {ty : TypeId} {pos : String} {after : Array Edge} {rest : List Oper} (v : Value) (hev : Ev P n F A op ty v)
    (h : St n F A (wpList P ops Q rest)) :
    St n F A (wpList P ops Q ({ dst := none, op := op, type := ty, pos := pos, after := after, guard := none } :: rest)) :=
  fun a w ha hw => wpList_wp rfl (hev.wp ha hw fun w' hw' => h _ w' (ha.put_none v) hw')

/-- a value under a condition: nothing is known where the condition fails -/
@[irreducible] def gv (c : Bool) (v : Value) : Value := bif c then v else undef

theorem gv_true {c : Bool} (h : c = true) (v : Value) : gv c v = v := by unfold gv; simp [h]
theorem gv_false {c : Bool} (h : c = false) (v : Value) : gv c v = undef := by unfold gv; simp [h]

/-- an operand's value, if need be under a condition that holds -/
def Opd (F : Fr) (x : Operand) (v : Value) : Prop := ∃ u, vl F x = some u ∧ u = v
theorem Opd.mk {x : Operand} {v : Value} (h : vl F x = some v) : Opd F x v := ⟨v, h, rfl⟩
theorem Opd.gv {x : Operand} {v : Value} {c : Bool} (h : vl F x = some (gv c v)) (hc : c = true) : Opd F x v := ⟨_, h, gv_true hc v⟩
theorem Opd.eval {x : Operand} {v : Value} (h : Opd F x v) {a : Act} (ha : Has n a F) : a.eval x = v := by
  obtain ⟨u, h1, rfl⟩ := h
  exact ha.eval h1

theorem and_l {a b : Bool} (h : (a && b) = true) : a = true := by cases a <;> simp_all
theorem and_r {a b : Bool} (h : (a && b) = true) : b = true := by cases a <;> simp_all
theorem and_i {a b : Bool} (h : a = true) (k : b = true) : (a && b) = true := by simp [h, k]
theorem not_i {a : Bool} (h : a = false) : (!a) = true := by simp [h]
theorem not_e {a : Bool} (h : (!a) = true) : a = false := by simpa using h

def boolOf : Value → Option Bool
  | .bool b => some b
  | _ => none

theorem yielded_of {l : Array Oper} {j dj : Nat} {u : Value} {tmps : Array Value} (hj : (l[j]?).bind (·.dst) = some dj) (h : tmps[dj]? = some u) :
    yielded l tmps j = boolOf u := by
  unfold yielded
  rw [hj]
  simp only [Option.bind_some, h]
  cases u <;> rfl

/-- whether a guarded operation is wanted -/
theorem wanted_of {l : Array Oper} {o : Oper} {j dj : Nat} {want c : Bool} {a : Act} {u : Value} (hg : o.guard = some (j, want)) (hj : (l[j]?).bind (·.dst) = some dj) (h : a.tmps[dj]? = some u)
    (hu : (c = true → u = .bool want) ∧ (c = false → u = .bool (!want) ∨ u = undef)) : Region.wanted o (yielded l a.tmps) = c := by
  unfold Region.wanted
  rw [hg]
  simp only []
  rw [yielded_of hj h]
  cases c with
  | true => rw [hu.1 rfl]; cases want <;> rfl
  | false =>
    rcases hu.2 rfl with h | h
    · rw [h]; cases want <;> rfl
    · rw [h]; cases want <;> rfl

theorem St.guarded {j : Nat} {want : Bool} {d : Nat} {op : Op} {ty : TypeId} {pos : String} {after : Array Edge} {rest : List Oper} (c : Bool) {dj : Nat} {u : Value} (v : Value)
    (hj : (ops[j]?).bind (·.dst) = some dj) (hl : look F dj = some u) (hu : (c = true → u = .bool want) ∧ (c = false → u = .bool (!want) ∨ u = undef))
    (hev : c = true → Ev P n F A op ty v) (hd : Nat.ble (d + 1) n = true) (h : St n ((d, gv c v) :: F) A (wpList P ops Q rest)) :
    St n F A (wpList P ops Q ({ dst := some d, op := op, type := ty, pos := pos, after := after, guard := some (j, want) } :: rest)) := by
  intro a w ha hw
  have hd' := Nat.le_of_ble_eq_true hd
  have hwt := wanted_of (l := ops) (o := { dst := some d, op := op, type := ty, pos := pos, after := after, guard := some (j, want) }) rfl hj (ha.slot _ _ hl) hu
  simp only [wpList, hwt]
  cases hc : c with
  | true =>
    rw [hc] at h
    simp only [if_true]
    refine .inl ((hev hc).wp ha hw fun w' hw' => ?_)
    have := h _ w' (ha.put hd' (gv true v)) hw'
    rwa [gv_true rfl] at this
  | false =>
    rw [hc] at h
    have := h _ w (ha.put hd' (gv false v)) hw
    rw [gv_false rfl] at this
    simpa using this

theorem gu_t (g : Bool) : (g = true → Value.bool g = .bool true) ∧ (g = false → Value.bool g = .bool (!true) ∨ Value.bool g = undef) := by cases g <;> simp
theorem gu_f (g : Bool) : ((!g) = true → Value.bool g = .bool false) ∧ ((!g) = false → Value.bool g = .bool (!false) ∨ Value.bool g = undef) := by cases g <;> simp
theorem gu_ct (c g : Bool) : ((c && g) = true → J.gv c (.bool g) = .bool true) ∧ ((c && g) = false → J.gv c (.bool g) = .bool (!true) ∨ J.gv c (.bool g) = undef) := by
  cases c <;> cases g <;> simp [gv]
theorem gu_cf (c g : Bool) : ((c && !g) = true → J.gv c (.bool g) = .bool false) ∧ ((c && !g) = false → J.gv c (.bool g) = .bool (!false) ∨ J.gv c (.bool g) = undef) := by
  cases c <;> cases g <;> simp [gv]

section
variable {j : Nat} {d : Nat} {op : Op} {ty : TypeId} {pos : String} {after : Array Edge} {rest : List Oper} {dj : Nat} (v : Value)
theorem St.gt {g : Bool} (hj : (ops[j]?).bind (·.dst) = some dj) (hl : look F dj = some (.bool g)) (hev : g = true → Ev P n F A op ty v) (hd : Nat.ble (d + 1) n = true)
    (h : St n ((d, gv g v) :: F) A (wpList P ops Q rest)) :
    St n F A (wpList P ops Q ({ dst := some d, op := op, type := ty, pos := pos, after := after, guard := some (j, true) } :: rest)) := St.guarded g v hj hl (gu_t g) hev hd h
theorem St.gf {g : Bool} (hj : (ops[j]?).bind (·.dst) = some dj) (hl : look F dj = some (.bool g)) (hev : (!g) = true → Ev P n F A op ty v) (hd : Nat.ble (d + 1) n = true)
    (h : St n ((d, gv (!g) v) :: F) A (wpList P ops Q rest)) :
    St n F A (wpList P ops Q ({ dst := some d, op := op, type := ty, pos := pos, after := after, guard := some (j, false) } :: rest)) := St.guarded (!g) v hj hl (gu_f g) hev hd h
theorem St.gct {c g : Bool} (hj : (ops[j]?).bind (·.dst) = some dj) (hl : look F dj = some (gv c (.bool g))) (hev : (c && g) = true → Ev P n F A op ty v) (hd : Nat.ble (d + 1) n = true)
    (h : St n ((d, gv (c && g) v) :: F) A (wpList P ops Q rest)) :
    St n F A (wpList P ops Q ({ dst := some d, op := op, type := ty, pos := pos, after := after, guard := some (j, true) } :: rest)) := St.guarded (c && g) v hj hl (gu_ct c g) hev hd h
theorem St.gcf {c g : Bool} (hj : (ops[j]?).bind (·.dst) = some dj) (hl : look F dj = some (gv c (.bool g))) (hev : (c && !g) = true → Ev P n F A op ty v) (hd : Nat.ble (d + 1) n = true)
    (h : St n ((d, gv (c && !g) v) :: F) A (wpList P ops Q rest)) :
    St n F A (wpList P ops Q ({ dst := some d, op := op, type := ty, pos := pos, after := after, guard := some (j, false) } :: rest)) := St.guarded (c && !g) v hj hl (gu_cf c g) hev hd h
end

/-- in a region that draws its order: frames alone -/
def Sq (n : Nat) (F : Fr) (T : Act → Prop) : Prop := ∀ a, Has n a F → T a

theorem Sq.nil (h : St n F A (Q .normal)) : Sq n F (wpQuiet P ops A (fun a' => ∀ w', A w' → Q .normal a' w') []) := fun a ha w hw => h a w ha hw

theorem Sq.ev {d : Nat} {op : Op} {ty : TypeId} {pos : String} {after : Array Edge} {rest : List Oper} {T : Act → Prop} (v : Value) (hev : Ev P n F A op ty v) (hd : Nat.ble (d + 1) n = true)
    (h : Sq n ((d, v) :: F) (wpQuiet P ops A T rest)) :
    Sq n F (wpQuiet P ops A T ({ dst := some d, op := op, type := ty, pos := pos, after := after, guard := none } :: rest)) := by
  intro a ha
  simp only [wpQuiet, Region.wanted, if_true]
  exact ⟨v, fun w hw => hev.quietAt ha hw, h _ (ha.put (Nat.le_of_ble_eq_true hd) v)⟩

theorem Sq.guarded {j : Nat} {want : Bool} {d : Nat} {op : Op} {ty : TypeId} {pos : String} {after : Array Edge} {rest : List Oper} {T : Act → Prop} (c : Bool) {dj : Nat} {u : Value} (v : Value)
    (hj : (ops[j]?).bind (·.dst) = some dj) (hl : look F dj = some u) (hu : (c = true → u = .bool want) ∧ (c = false → u = .bool (!want) ∨ u = undef))
    (hev : c = true → Ev P n F A op ty v) (hd : Nat.ble (d + 1) n = true) (h : Sq n ((d, gv c v) :: F) (wpQuiet P ops A T rest)) :
    Sq n F (wpQuiet P ops A T ({ dst := some d, op := op, type := ty, pos := pos, after := after, guard := some (j, want) } :: rest)) := by
  intro a ha
  have hd' := Nat.le_of_ble_eq_true hd
  have hwt := wanted_of (l := ops) (o := { dst := some d, op := op, type := ty, pos := pos, after := after, guard := some (j, want) }) rfl hj (ha.slot _ _ hl) hu
  simp only [wpQuiet, hwt]
  cases hc : c with
  | true =>
    rw [hc] at h
    simp only [if_true]
    refine ⟨v, fun w hw => (hev hc).quietAt ha hw, ?_⟩
    have := h _ (ha.put hd' (gv true v))
    rwa [gv_true rfl] at this
  | false =>
    rw [hc] at h
    have := h _ (ha.put hd' (gv false v))
    rw [gv_false rfl] at this
    simpa using this

section
variable {j : Nat} {d : Nat} {op : Op} {ty : TypeId} {pos : String} {after : Array Edge} {rest : List Oper} {dj : Nat} {T : Act → Prop} (v : Value)
theorem Sq.gt {g : Bool} (hj : (ops[j]?).bind (·.dst) = some dj) (hl : look F dj = some (.bool g)) (hev : g = true → Ev P n F A op ty v) (hd : Nat.ble (d + 1) n = true)
    (h : Sq n ((d, gv g v) :: F) (wpQuiet P ops A T rest)) :
    Sq n F (wpQuiet P ops A T ({ dst := some d, op := op, type := ty, pos := pos, after := after, guard := some (j, true) } :: rest)) := Sq.guarded g v hj hl (gu_t g) hev hd h
theorem Sq.gf {g : Bool} (hj : (ops[j]?).bind (·.dst) = some dj) (hl : look F dj = some (.bool g)) (hev : (!g) = true → Ev P n F A op ty v) (hd : Nat.ble (d + 1) n = true)
    (h : Sq n ((d, gv (!g) v) :: F) (wpQuiet P ops A T rest)) :
    Sq n F (wpQuiet P ops A T ({ dst := some d, op := op, type := ty, pos := pos, after := after, guard := some (j, false) } :: rest)) := Sq.guarded (!g) v hj hl (gu_f g) hev hd h
theorem Sq.gct {c g : Bool} (hj : (ops[j]?).bind (·.dst) = some dj) (hl : look F dj = some (gv c (.bool g))) (hev : (c && g) = true → Ev P n F A op ty v) (hd : Nat.ble (d + 1) n = true)
    (h : Sq n ((d, gv (c && g) v) :: F) (wpQuiet P ops A T rest)) :
    Sq n F (wpQuiet P ops A T ({ dst := some d, op := op, type := ty, pos := pos, after := after, guard := some (j, true) } :: rest)) := Sq.guarded (c && g) v hj hl (gu_ct c g) hev hd h
theorem Sq.gcf {c g : Bool} (hj : (ops[j]?).bind (·.dst) = some dj) (hl : look F dj = some (gv c (.bool g))) (hev : (c && !g) = true → Ev P n F A op ty v) (hd : Nat.ble (d + 1) n = true)
    (h : Sq n ((d, gv (c && !g) v) :: F) (wpQuiet P ops A T rest)) :
    Sq n F (wpQuiet P ops A T ({ dst := some d, op := op, type := ty, pos := pos, after := after, guard := some (j, false) } :: rest)) := Sq.guarded (c && !g) v hj hl (gu_cf c g) hev hd h
end

/-- the assertion bears draws -/
def Drawn (A : World → Prop) : Prop := ∀ w, A w → A { w with drawn := w.drawn + 1 }

/-- a region that draws its order, all of whose operations keep the assertion -/
theorem St.rq {id : Nat} {l : List Oper} (hm : P.follows .mixedOrders = true) (hB : Region.lexB .any l.toArray = true) (hA : Drawn A)
    (h : Sq n F (wpQuiet P l.toArray A (fun a' => ∀ w', A w' → Q .normal a' w') l)) : St n F A ((Code.region id l.toArray true).wp P Q) :=
  fun a w ha hw => wp_region_quiet hm hB (hA w hw) (by simpa using h a ha)

end
end Go.J
