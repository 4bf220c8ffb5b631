/-
  Several texts in one: YtolmidffiegkaaaDoorJ1, YtolmidffiegkaaaDoorJ2, YtolmidffiegkaaaDoorJ3, YtolmidffiegkaaaDoorJ4, YtolmidffiegkaaaDoorJ5, YtolmidffiegkaaaDoorJ6, YtolmidffiegkaaaDoorJ7, YtolmidffiegkaaaDoorJ8, YtolmidffiegkaaaDoorJ9, YtolmidffiegkaaaDoorJ10, YtolmidffiegkaaaDoorJT, YtolmidffiegkaaaDoorJ11, YtolmidffiegkaaaDoorJ13, YtolmidffiegkaaaDoorJ21, YtolmidffiegkaaaDoorJ22, YtolmidffiegkaaaDoorJU, YtolmidffiegkaaaDoorJP, YtolmidffiegkaaaDoorFracP, YtolmidffiegkaaaDoorJ12, YtolmidffiegkaaaDoorJ20, YtolmidffiegkaaaDoorJW, YtolmidffiegkaaaDoorWordP, YtolmidffiegkaaaDoorJ24, YtolmidffiegkaaaDoorJ15b, YtolmidffiegkaaaDoorJ25.
  Conditions: none.
-/
import Derived.WalkKit
import Derived.Deep.Quiet
import Derived.Deep.LoopGhost
import Derived.Laws.StructEq
import Derived.ProofKit
import Derived.OpenShut
import Derived.JoinedCond
import Derived.Carry
import Derived.Deep.Slices
import Derived.SizedLaws
import Derived.Still
import Derived.MapKept
import Derived.Lib.LaidU8
import Derived.LaidMore
import Derived.Lay
import Derived.Stop.Joined
import Derived.Deep.DeepHandedRow
import Derived.Lib.Mul64
import Derived.Shelf.Spec.BitsCarry
import Derived.Laws.IdiomStrings
import Derived.Stop.IfaceNil
import Derived.Below
import Derived.Lib.ValidU
import Derived.Lib.RuneCount
import Derived.Lib.IndexAny
import Derived.Lib.TrimUEq
/-
  (YtolmidffiegkaaaDoorJ1)
  The frame of the walks: judgements over partial frames (which slots are known) and assertions on worlds; the rules for sequences, tests, blocks, loops, regions.
  Conditions: none; everything holds of any program.
-/
namespace Go.J
open Go
abbrev Fr := List (Nat × Value)
def look : Fr → Nat → Option Value
 | [], _ => none
 | (k, v) :: F, t => bif Nat.beq t k then some v else look F t
def vl (F : Fr) : Operand → Option Value
 | .tmp t => look F t
 | .const v => some v
 | .func f => some (.func (.func f) #[] #[])
 | .global g => some (.pointer (some ⟨g, 0, none⟩))
structure Has (n : Nat) (a : Act) (F : Fr) : Prop where
 size : a.tmps.size = n
 defers : a.defers = []
 slot : ∀ t v, look F t = some v → a.tmps[t]? = some v
theorem Has.eval {n : Nat} {a : Act} {F : Fr} {x : Operand} {v : Value} (h : Has n a F) (hx : vl F x = some v) : a.eval x = v := by
 cases x with
 | tmp t => simp only [vl] at hx; simp [Act.eval, Array.getD_eq_getD_getElem?, h.slot _ _ hx]
 | const u => simp only [vl, Option.some.injEq] at hx; exact hx
 | func f => simp only [vl, Option.some.injEq] at hx; exact hx
 | global g => simp only [vl, Option.some.injEq] at hx; exact hx
theorem Has.put {n : Nat} {a : Act} {F : Fr} (h : Has n a F) {d : Nat} (hd : d < n) (v : Value) : Has n (a.put (some d) v) ((d, v) :: F) := by
 refine ⟨by simp [Act.put, h.size], by simp [Act.put, h.defers], fun t u hu => ?_⟩
 simp only [look] at hu
 cases hb : Nat.beq t d with
 | true =>
  have e : t = d := Nat.eq_of_beq_eq_true hb
  subst e
  simp only [hb, cond_true, Option.some.injEq] at hu
  subst hu
  simp [Act.put, h.size, hd]
 | false =>
  have e : t ≠ d := Nat.ne_of_beq_eq_false hb
  simp only [hb, cond_false] at hu
  simp [Act.put, Ne.symm e, h.slot _ _ hu]
theorem Has.put_none {n : Nat} {a : Act} {F : Fr} (h : Has n a F) (v : Value) : Has n (a.put none v) F := h
def Sub : Fr → Fr → Prop
 | [], _ => True
 | (k, v) :: F', F => look F k = some v ∧ Sub F' F
theorem Sub.look {F' F : Fr} (h : Sub F' F) : ∀ t v, look F' t = some v → J.look F t = some v := by
 induction F' with
 | nil => intro t v hv; simp [J.look] at hv
 | cons p F' ih =>
  obtain ⟨k, u⟩ := p
  intro t v hv
  simp only [J.look] at hv
  cases hb : Nat.beq t k with
  | true =>
   have e : t = k := Nat.eq_of_beq_eq_true hb
   subst e
   simp only [hb, cond_true, Option.some.injEq] at hv
   subst hv
   exact h.1
  | false =>
   simp only [hb, cond_false] at hv
   exact ih h.2 t v hv
theorem Has.sub {n : Nat} {a : Act} {F F' : Fr} (h : Has n a F) (hs : Sub F' F) : Has n a F' := ⟨h.size, h.defers, fun t v hv => h.slot t v (hs.look t v hv)⟩
def St (n : Nat) (F : Fr) (A : World → Prop) (T : Act → World → Prop) : Prop := ∀ a w, Has n a F → A w → T a w
section
variable {P : Program} {n : Nat} {F : Fr} {A : World → Prop} {Q : Exit → Act → World → Prop} {ops : Array Oper}
theorem St.weak {A' : World → Prop} {T : Act → World → Prop} (hA : ∀ w, A w → A' w) (h : St n F A' T) : St n F A T :=
 fun a w ha hw => h a w ha (hA w hw)
theorem St.and {p : Prop} {T : Act → World → Prop} (h : p → St n F A T) : St n F (fun w => p ∧ A w) T :=
 fun a w ha hw => h hw.1 a w ha hw.2
theorem St.seq {x y : Code} (h : St n F A (x.wp P (Exit.then (y.wp P Q) Q))) : St n F A ((Code.seq x y).wp P Q) :=
 fun a w ha hw => wp_seq (h a w ha hw)
theorem St.skip (h : St n F A (Q .normal)) : St n F A (Code.skip.wp P Q) := fun a w ha hw => wp_skip (h a w ha hw)
theorem St.rett (h : St n F A (Q .ret)) : St n F A (Code.ret.wp P Q) := fun a w ha hw => wp_ret (h a w ha hw)
theorem St.exit {id : Nat} (h : St n F A (Q (.exit id))) : St n F A ((Code.exit id).wp P Q) := fun a w ha hw => wp_exit (h a w ha hw)
theorem St.block {id : Nat} {c : Code} (h : St n F A (c.wp P (Exit.inBlock id Q))) : St n F A ((Code.block id c).wp P Q) :=
 fun a w ha hw => wp_block (h a w ha hw)
theorem St.cond {c : Operand} {x y : Code} (t : Bool) (hc : vl F c = some (.bool t)) (ht : t = true → St n F A (x.wp P Q)) (hf : t = false → St n F A (y.wp P Q)) :
  St n F A ((Code.cond c x y).wp P Q) :=
 fun a w ha hw => wp_cond_split (ha.eval hc) (fun h => ht h a w ha hw) (fun h => hf h a w ha hw)
theorem St.condt {c : Operand} {x y : Code} (t : Bool) (hc : vl F c = some (.bool t)) (h : t = true) (ht : St n F A (x.wp P Q)) :
  St n F A ((Code.cond c x y).wp P Q) :=
 fun a w ha hw => wp_cond_true (by rw [ha.eval hc, h]) (ht a w ha hw)
theorem St.condf {c : Operand} {x y : Code} (t : Bool) (hc : vl F c = some (.bool t)) (h : t = false) (hf : St n F A (y.wp P Q)) :
  St n F A ((Code.cond c x y).wp P Q) :=
 fun a w ha hw => wp_cond_false (by rw [ha.eval hc, h]) (hf a w ha hw)
theorem St.then_normal {K : Act → World → Prop} (h : St n F A K) : St n F A (Exit.then K Q .normal) := h
theorem St.then_exit {K : Act → World → Prop} {id : Nat} (h : St n F A (Q (.exit id))) : St n F A (Exit.then K Q (.exit id)) := h
theorem St.then_ret {K : Act → World → Prop} (h : St n F A (Q .ret)) : St n F A (Exit.then K Q .ret) := h
theorem St.in_normal {id : Nat} (h : St n F A (Q .normal)) : St n F A (Exit.inBlock id Q .normal) := h
theorem St.in_ret {id : Nat} (h : St n F A (Q .ret)) : St n F A (Exit.inBlock id Q .ret) := h
theorem St.in_hit {id : Nat} (h : St n F A (Q .normal)) : St n F A (Exit.inBlock id Q (.exit id)) := by
 intro a w ha hw
 simp only [Exit.inBlock, if_true]
 exact h a w ha hw
theorem St.in_miss {id id' : Nat} (hne : Nat.beq id' id = false) (h : St n F A (Q (.exit id'))) : St n F A (Exit.inBlock id Q (.exit id')) := by
 intro a w ha hw
 simp only [Exit.inBlock, if_neg (Nat.ne_of_beq_eq_false hne)]
 exact h a w ha hw
theorem St.loop {ι : Type _} {body : Code} (Fi : ι → Fr) (Ai : ι → World → Prop) (μ : ι → Nat) (x₀ : ι) (hF : Sub (Fi x₀) F) (hA : ∀ w, A w → Ai x₀ w)
  (round : ∀ x, St n (Fi x) (Ai x) (body.wp P (Exit.then (fun a' w' => ∃ y, μ y < μ x ∧ Has n a' (Fi y) ∧ Ai y w') Q))) :
  St n F A ((Code.loop body).wp P Q) := by
 intro a w ha hw
 refine wp_loop_ghost (fun k a w => ∃ x, μ x = k ∧ Has n a (Fi x) ∧ Ai x w) (μ x₀) ⟨x₀, rfl, ha.sub hF, hA w hw⟩ ?_
 rintro k a w ⟨x, rfl, hx, hAx⟩
 refine wp_mono (round x a w hx hAx) ?_
 intro e a' w' hq
 cases e with
 | normal => obtain ⟨y, h1, h2, h3⟩ := hq; exact ⟨μ y, h1, y, rfl, h2, h3⟩
 | exit id => exact hq
 | goto l => exact hq
 | ret => exact hq
 | panic ch => exact hq
 | outgrown => exact hq
theorem St.rg {id : Nat} {l : List Oper} (h : St n F A (wpList P l.toArray Q l)) : St n F A ((Code.region id l.toArray false).wp P Q) :=
 fun a w ha hw => wp_region_lit (h a w ha hw)
theorem St.nil (h : St n F A (Q .normal)) : St n F A (wpList P ops Q []) := h
abbrev bare (op : Op) (ty : TypeId) : Oper := { dst := none, op := op, type := ty, pos := "", after := #[], guard := none }
theorem execOp_bare (ρ : Operand → Value) (o : Oper) : execOp ρ o = execOp ρ (bare o.op o.type) := by
 obtain ⟨d, op, ty, p, af, g⟩ := o
 cases op <;> rfl
def Ev (P : Program) (n : Nat) (F : Fr) (A : World → Prop) (op : Op) (ty : TypeId) (v : Value) : Prop :=
 ∀ a w, Has n a F → A w → Oper.quietUpon P A w v ((execOp a.eval (bare op ty)).run P w)
set_option linter.unusedVariables false
theorem Ev.quietAt {op : Op} {ty : TypeId} {v : Value} (h : Ev P n F A op ty v) {d : Option Tmp} {pos : String} {after : Array Edge} {g : Option (Nat × Bool)} {a : Act} {w : World}
  (ha : Has n a F) (hw : A w) : ({ dst := d, op := op, type := ty, pos := pos, after := after, guard := g } : Oper).quietAt P a A w v := by
 unfold Oper.quietAt
 rw [execOp_bare]
 exact h a w ha hw
theorem Ev.wp {op : Op} {ty : TypeId} {v : Value} (h : Ev P n F A op ty v) {d : Option Tmp} {pos : String} {after : Array Edge} {g : Option (Nat × Bool)} {a : Act} {w : World}
  (ha : Has n a F) (hw : A w) {K : Act → World → Prop} (hk : ∀ w', A w' → K (a.put d v) w') :
  ({ dst := d, op := op, type := ty, pos := pos, after := after, guard := g } : Oper).wp P a w K Q := by
 unfold Oper.wp Oper.upon
 rw [execOp_bare]
 have hh := h a w ha hw
 simp only at hh ⊢
 generalize (execOp a.eval (bare op ty)).run P w = r at hh
 cases r with
 | ok nx w' =>
  cases nx <;> simp only [Oper.quietUpon] at hh <;> (try exact hh.elim)
  ·obtain ⟨rfl, rfl⟩ := hh; exact hk _ hw
  ·obtain ⟨rfl, rfl⟩ := hh; exact hk _ hw
  ·obtain ⟨rfl, hc⟩ := hh
   exact hc.mono fun e w'' he => by
    obtain ⟨rfl, hA⟩ := he
    exact hk _ hA
 | halt x w' => simp only [Oper.quietUpon] at hh
theorem wpList_wp {o : Oper} {rest : List Oper} {a : Act} {w : World} (hg : o.guard = none) (h : o.wp P a w (wpList P ops Q rest) Q) : wpList P ops Q (o :: rest) a w := by
 simp only [wpList, Region.wanted, hg, if_true]
 exact .inl h
theorem St.ev {d : Nat} {op : Op} {ty : TypeId} {pos : String} {after : Array Edge} {rest : List Oper} (v : Value) (hev : Ev P n F A op ty v) (hd : Nat.ble (d + 1) n = true)
  (h : St n ((d, v) :: F) A (wpList P ops Q rest)) :
  St n F A (wpList P ops Q ({ dst := some d, op := op, type := ty, pos := pos, after := after, guard := none } :: rest)) :=
 fun a w ha hw => wpList_wp rfl (hev.wp ha hw fun w' hw' => h _ w' (ha.put (Nat.le_of_ble_eq_true hd) v) hw')
@[irreducible] def gv (c : Bool) (v : Value) : Value := bif c then v else undef
theorem gv_true {c : Bool} (h : c = true) (v : Value) : gv c v = v := by unfold gv; simp [h]
theorem gv_false {c : Bool} (h : c = false) (v : Value) : gv c v = undef := by unfold gv; simp [h]
def Opd (F : Fr) (x : Operand) (v : Value) : Prop := ∃ u, vl F x = some u ∧ u = v
theorem Opd.mk {x : Operand} {v : Value} (h : vl F x = some v) : Opd F x v := ⟨v, h, rfl⟩
theorem Opd.gv {x : Operand} {v : Value} {c : Bool} (h : vl F x = some (gv c v)) (hc : c = true) : Opd F x v := ⟨_, h, gv_true hc v⟩
theorem Opd.eval {x : Operand} {v : Value} (h : Opd F x v) {a : Act} (ha : Has n a F) : a.eval x = v := by
 obtain ⟨u, h1, rfl⟩ := h
 exact ha.eval h1
theorem and_i {a b : Bool} (h : a = true) (k : b = true) : (a && b) = true := by simp [h, k]
def boolOf : Value → Option Bool
 | .bool b => some b
 | _ => none
theorem yielded_of {l : Array Oper} {j dj : Nat} {u : Value} {tmps : Array Value} (hj : (l[j]?).bind (·.dst) = some dj) (h : tmps[dj]? = some u) :
  yielded l tmps j = boolOf u := by
 unfold yielded
 rw [hj]
 simp only [Option.bind_some, h]
 cases u <;> rfl
theorem wanted_of {l : Array Oper} {o : Oper} {j dj : Nat} {want c : Bool} {a : Act} {u : Value} (hg : o.guard = some (j, want)) (hj : (l[j]?).bind (·.dst) = some dj) (h : a.tmps[dj]? = some u)
  (hu : (c = true → u = .bool want) ∧ (c = false → u = .bool (!want) ∨ u = undef)) : Region.wanted o (yielded l a.tmps) = c := by
 unfold Region.wanted
 rw [hg]
 simp only []
 rw [yielded_of hj h]
 cases c with
 | true => rw [hu.1 rfl]; cases want <;> rfl
 | false =>
  rcases hu.2 rfl with h | h
  ·rw [h]; cases want <;> rfl
  ·rw [h]; cases want <;> rfl
theorem St.guarded {j : Nat} {want : Bool} {d : Nat} {op : Op} {ty : TypeId} {pos : String} {after : Array Edge} {rest : List Oper} (c : Bool) {dj : Nat} {u : Value} (v : Value)
  (hj : (ops[j]?).bind (·.dst) = some dj) (hl : look F dj = some u) (hu : (c = true → u = .bool want) ∧ (c = false → u = .bool (!want) ∨ u = undef))
  (hev : c = true → Ev P n F A op ty v) (hd : Nat.ble (d + 1) n = true) (h : St n ((d, gv c v) :: F) A (wpList P ops Q rest)) :
  St n F A (wpList P ops Q ({ dst := some d, op := op, type := ty, pos := pos, after := after, guard := some (j, want) } :: rest)) := by
 intro a w ha hw
 have hd' := Nat.le_of_ble_eq_true hd
 have hwt := wanted_of (l := ops) (o := { dst := some d, op := op, type := ty, pos := pos, after := after, guard := some (j, want) }) rfl hj (ha.slot _ _ hl) hu
 simp only [wpList, hwt]
 cases hc : c with
 | true =>
  rw [hc] at h
  simp only [if_true]
  refine .inl ((hev hc).wp ha hw fun w' hw' => ?_)
  have := h _ w' (ha.put hd' (gv true v)) hw'
  rwa [gv_true rfl] at this
 | false =>
  rw [hc] at h
  have := h _ w (ha.put hd' (gv false v)) hw
  rw [gv_false rfl] at this
  simpa using this
theorem gu_t (g : Bool) : (g = true → Value.bool g = .bool true) ∧ (g = false → Value.bool g = .bool (!true) ∨ Value.bool g = undef) := by cases g <;> simp
theorem gu_f (g : Bool) : ((!g) = true → Value.bool g = .bool false) ∧ ((!g) = false → Value.bool g = .bool (!false) ∨ Value.bool g = undef) := by cases g <;> simp
theorem gu_ct (c g : Bool) : ((c && g) = true → J.gv c (.bool g) = .bool true) ∧ ((c && g) = false → J.gv c (.bool g) = .bool (!true) ∨ J.gv c (.bool g) = undef) := by
 cases c <;> cases g <;> simp [gv]
theorem gu_cf (c g : Bool) : ((c && !g) = true → J.gv c (.bool g) = .bool false) ∧ ((c && !g) = false → J.gv c (.bool g) = .bool (!false) ∨ J.gv c (.bool g) = undef) := by
 cases c <;> cases g <;> simp [gv]
section
variable {j : Nat} {d : Nat} {op : Op} {ty : TypeId} {pos : String} {after : Array Edge} {rest : List Oper} {dj : Nat} (v : Value)
theorem St.gt {g : Bool} (hj : (ops[j]?).bind (·.dst) = some dj) (hl : look F dj = some (.bool g)) (hev : g = true → Ev P n F A op ty v) (hd : Nat.ble (d + 1) n = true)
  (h : St n ((d, gv g v) :: F) A (wpList P ops Q rest)) :
  St n F A (wpList P ops Q ({ dst := some d, op := op, type := ty, pos := pos, after := after, guard := some (j, true) } :: rest)) := St.guarded g v hj hl (gu_t g) hev hd h
theorem St.gf {g : Bool} (hj : (ops[j]?).bind (·.dst) = some dj) (hl : look F dj = some (.bool g)) (hev : (!g) = true → Ev P n F A op ty v) (hd : Nat.ble (d + 1) n = true)
  (h : St n ((d, gv (!g) v) :: F) A (wpList P ops Q rest)) :
  St n F A (wpList P ops Q ({ dst := some d, op := op, type := ty, pos := pos, after := after, guard := some (j, false) } :: rest)) := St.guarded (!g) v hj hl (gu_f g) hev hd h
theorem St.gct {c g : Bool} (hj : (ops[j]?).bind (·.dst) = some dj) (hl : look F dj = some (gv c (.bool g))) (hev : (c && g) = true → Ev P n F A op ty v) (hd : Nat.ble (d + 1) n = true)
  (h : St n ((d, gv (c && g) v) :: F) A (wpList P ops Q rest)) :
  St n F A (wpList P ops Q ({ dst := some d, op := op, type := ty, pos := pos, after := after, guard := some (j, true) } :: rest)) := St.guarded (c && g) v hj hl (gu_ct c g) hev hd h
theorem St.gcf {c g : Bool} (hj : (ops[j]?).bind (·.dst) = some dj) (hl : look F dj = some (gv c (.bool g))) (hev : (c && !g) = true → Ev P n F A op ty v) (hd : Nat.ble (d + 1) n = true)
  (h : St n ((d, gv (c && !g) v) :: F) A (wpList P ops Q rest)) :
  St n F A (wpList P ops Q ({ dst := some d, op := op, type := ty, pos := pos, after := after, guard := some (j, false) } :: rest)) := St.guarded (c && !g) v hj hl (gu_cf c g) hev hd h
end
def Sq (n : Nat) (F : Fr) (T : Act → Prop) : Prop := ∀ a, Has n a F → T a
theorem Sq.nil (h : St n F A (Q .normal)) : Sq n F (wpQuiet P ops A (fun a' => ∀ w', A w' → Q .normal a' w') []) := fun a ha w hw => h a w ha hw
theorem Sq.ev {d : Nat} {op : Op} {ty : TypeId} {pos : String} {after : Array Edge} {rest : List Oper} {T : Act → Prop} (v : Value) (hev : Ev P n F A op ty v) (hd : Nat.ble (d + 1) n = true)
  (h : Sq n ((d, v) :: F) (wpQuiet P ops A T rest)) :
  Sq n F (wpQuiet P ops A T ({ dst := some d, op := op, type := ty, pos := pos, after := after, guard := none } :: rest)) := by
 intro a ha
 simp only [wpQuiet, Region.wanted, if_true]
 exact ⟨v, fun w hw => hev.quietAt ha hw, h _ (ha.put (Nat.le_of_ble_eq_true hd) v)⟩
theorem Sq.guarded {j : Nat} {want : Bool} {d : Nat} {op : Op} {ty : TypeId} {pos : String} {after : Array Edge} {rest : List Oper} {T : Act → Prop} (c : Bool) {dj : Nat} {u : Value} (v : Value)
  (hj : (ops[j]?).bind (·.dst) = some dj) (hl : look F dj = some u) (hu : (c = true → u = .bool want) ∧ (c = false → u = .bool (!want) ∨ u = undef))
  (hev : c = true → Ev P n F A op ty v) (hd : Nat.ble (d + 1) n = true) (h : Sq n ((d, gv c v) :: F) (wpQuiet P ops A T rest)) :
  Sq n F (wpQuiet P ops A T ({ dst := some d, op := op, type := ty, pos := pos, after := after, guard := some (j, want) } :: rest)) := by
 intro a ha
 have hd' := Nat.le_of_ble_eq_true hd
 have hwt := wanted_of (l := ops) (o := { dst := some d, op := op, type := ty, pos := pos, after := after, guard := some (j, want) }) rfl hj (ha.slot _ _ hl) hu
 simp only [wpQuiet, hwt]
 cases hc : c with
 | true =>
  rw [hc] at h
  simp only [if_true]
  refine ⟨v, fun w hw => (hev hc).quietAt ha hw, ?_⟩
  have := h _ (ha.put hd' (gv true v))
  rwa [gv_true rfl] at this
 | false =>
  rw [hc] at h
  have := h _ (ha.put hd' (gv false v))
  rw [gv_false rfl] at this
  simpa using this
section
variable {j : Nat} {d : Nat} {op : Op} {ty : TypeId} {pos : String} {after : Array Edge} {rest : List Oper} {dj : Nat} {T : Act → Prop} (v : Value)
theorem Sq.gt {g : Bool} (hj : (ops[j]?).bind (·.dst) = some dj) (hl : look F dj = some (.bool g)) (hev : g = true → Ev P n F A op ty v) (hd : Nat.ble (d + 1) n = true)
  (h : Sq n ((d, gv g v) :: F) (wpQuiet P ops A T rest)) :
  Sq n F (wpQuiet P ops A T ({ dst := some d, op := op, type := ty, pos := pos, after := after, guard := some (j, true) } :: rest)) := Sq.guarded g v hj hl (gu_t g) hev hd h
theorem Sq.gf {g : Bool} (hj : (ops[j]?).bind (·.dst) = some dj) (hl : look F dj = some (.bool g)) (hev : (!g) = true → Ev P n F A op ty v) (hd : Nat.ble (d + 1) n = true)
  (h : Sq n ((d, gv (!g) v) :: F) (wpQuiet P ops A T rest)) :
  Sq n F (wpQuiet P ops A T ({ dst := some d, op := op, type := ty, pos := pos, after := after, guard := some (j, false) } :: rest)) := Sq.guarded (!g) v hj hl (gu_f g) hev hd h
end
def Drawn (A : World → Prop) : Prop := ∀ w, A w → A { w with drawn := w.drawn + 1 }
theorem St.rq {id : Nat} {l : List Oper} (hm : P.follows .mixedOrders = true) (hB : Region.lexB .any l.toArray = true) (hA : Drawn A)
  (h : Sq n F (wpQuiet P l.toArray A (fun a' => ∀ w', A w' → Q .normal a' w') l)) : St n F A ((Code.region id l.toArray true).wp P Q) :=
 fun a w ha hw => wp_region_quiet hm hB (hA w hw) (by simpa using h a ha)
end
end Go.J

/-
  (YtolmidffiegkaaaDoorJ2)
  The memory of the walks: what is read only, what the call owns; an assertion is a list of entries that hold apart. Contracts of functions.
  Conditions: none; everything holds of any program.
-/
namespace Go.J
open Go
abbrev Ro := Nat → Option Obj
def Ro.le (ρ ρ' : Ro) : Prop := ∀ k o, ρ k = some o → ρ' k = some o
theorem Ro.le_refl (ρ : Ro) : ρ.le ρ := fun _ _ h => h
theorem Ro.le_trans {a b c : Ro} (h : a.le b) (k : b.le c) : a.le c := fun _ _ x => k _ _ (h _ _ x)
structure Dat where
  f : Ro → Prop
  mono : ∀ ρ ρ', Ro.le ρ ρ' → f ρ → f ρ'
structure Ent where
  key : Option Nat
  ok : Ro → World → Prop
  loc : ∀ {ρ ρ' w w'}, Ro.le ρ ρ' → (∀ b, key = some b → w'.heap[b]? = w.heap[b]?) → ok ρ w → ok ρ' w'
  lt : ∀ {ρ w b}, ok ρ w → key = some b → b < w.heap.size
@[irreducible] def dat (d : Dat) : Ent := ⟨none, fun ρ _ => d.f ρ, fun h _ k => d.mono _ _ h k, fun _ h => by simp at h⟩
@[irreducible] def blk (b : Nat) (o : Obj) : Ent := ⟨some b, fun _ w => w.heap[b]? = some o, fun _ h k => by rw [h b rfl]; exact k, fun h hb => by
  simp only [Option.some.injEq] at hb
  subst hb
  exact (Array.getElem?_eq_some_iff.1 h).1⟩
theorem ownsRow_loc {w w' : World} {e : TypeId} {size n : Nat} {v : Value} {cs : List Value} (h : ∀ b, v.ownBlock = some b → w'.heap[b]? = w.heap[b]?) (k : w.ownsRow 0 e size v n cs) : w'.ownsRow 0 e size v n cs := by
  obtain ⟨h1, h2⟩ := k
  refine ⟨h1, ?_⟩
  rcases h2 with h2 | ⟨g, cap, cur, rfl, h3, h4, h5⟩
  · exact .inl h2
  · exact .inr ⟨g, cap, cur, rfl, h3, by rw [h g rfl]; exact h4, h5⟩
@[irreducible] def row (v : Value) (e : TypeId) (size n : Nat) (cs : List Value) : Ent := ⟨v.ownBlock, fun _ w => w.ownsRow 0 e size v n cs, fun _ h k => ownsRow_loc h k, fun h hb => (h.lt _ hb).2⟩
theorem dat_key (d : Dat) : (dat d).key = none := by unfold dat; rfl
theorem dat_ok {d : Dat} {ρ : Ro} {w : World} : (dat d).ok ρ w ↔ d.f ρ := by unfold dat; exact Iff.rfl
theorem blk_key (b : Nat) (o : Obj) : (blk b o).key = some b := by unfold blk; rfl
theorem blk_ok {b : Nat} {o : Obj} {ρ : Ro} {w : World} : (blk b o).ok ρ w ↔ w.heap[b]? = some o := by unfold blk; exact Iff.rfl
theorem row_key (v : Value) (e : TypeId) (size n : Nat) (cs : List Value) : (row v e size n cs).key = v.ownBlock := by unfold row; rfl
theorem row_ok {v : Value} {e : TypeId} {size n : Nat} {cs : List Value} {ρ : Ro} {w : World} : (row v e size n cs).ok ρ w ↔ w.ownsRow 0 e size v n cs := by unfold row; exact Iff.rfl
def Apart (E E' : Ent) : Prop := ∀ b, E.key = some b → E'.key ≠ some b
theorem Apart.symm {E E' : Ent} (h : Apart E E') : Apart E' E := fun b h1 h2 => h b h2 h1
def owns (H : List Ent) (b : Nat) : Prop := ∃ E ∈ H, E.key = some b
structure Ctx where
  w : World
  ρ : Ro
  M : Nat → Prop
  dr : Prop
structure MmR (c : Ctx) (H : List Ent) (ρ : Ro) (w : World) : Prop where
  os : w.os = c.w.os
  tape : w.tape = c.w.tape ∧ (c.dr → c.w.drawn ≤ w.drawn)
  output : w.output = c.w.output
  size : c.w.heap.size ≤ w.heap.size
  old : ∀ k, k < c.w.heap.size → ¬ c.M k → w.heap[k]? = c.w.heap[k]?
  fits : ∀ k o, ρ k = some o → w.heap[k]? = some o
  le : Ro.le c.ρ ρ
  new : ∀ k, k < c.w.heap.size → ¬ c.M k → ρ k = c.ρ k
  ents : ∀ E ∈ H, E.ok ρ w
  own : ∀ E ∈ H, ∀ b, E.key = some b → ρ b = none ∧ (c.w.heap.size ≤ b ∨ c.M b)
  dis : H.Pairwise Apart
@[irreducible] def Mm (c : Ctx) (H : List Ent) (w : World) : Prop := ∃ ρ, MmR c H ρ w
theorem Mm.out {c : Ctx} {H : List Ent} {w : World} (h : Mm c H w) : ∃ ρ, MmR c H ρ w := by unfold Mm at h; exact h
theorem Mm.mk {c : Ctx} {H : List Ent} {w : World} {ρ : Ro} (h : MmR c H ρ w) : Mm c H w := by unfold Mm; exact ⟨ρ, h⟩
theorem MmR.lt {c : Ctx} {H : List Ent} {ρ : Ro} {w : World} (h : MmR c H ρ w) {E : Ent} (hE : E ∈ H) {b : Nat} (hb : E.key = some b) : b < w.heap.size := E.lt (h.ents E hE) hb
theorem MmR.rlt {c : Ctx} {H : List Ent} {ρ : Ro} {w : World} (h : MmR c H ρ w) {b : Nat} {o : Obj} (hb : ρ b = some o) : b < w.heap.size := (Array.getElem?_eq_some_iff.1 (h.fits b o hb)).1
theorem MmR.step {c : Ctx} {H1 H2 R : List Ent} {ρ ρ' : Ro} {w w' : World} (h : MmR c (H1 ++ R) ρ w) (k : MmR ⟨w, ρ, owns H1, c.dr⟩ H2 ρ' w') : MmR c (H2 ++ R) ρ' w' := by
  have hd := List.pairwise_append.1 h.dis
  have keep : ∀ E ∈ R, ∀ b, E.key = some b → w'.heap[b]? = w.heap[b]? := by
    intro E hE b hb
    refine k.old b (h.lt (List.mem_append_right _ hE) hb) ?_
    rintro ⟨E', hE', hb'⟩
    exact hd.2.2 E' hE' E hE b hb' hb
  refine ⟨k.os.trans h.os, ⟨k.tape.1.trans h.tape.1, fun d => Nat.le_trans (h.tape.2 d) (k.tape.2 d)⟩, k.output.trans h.output, Nat.le_trans h.size k.size, ?_, k.fits, Ro.le_trans h.le k.le, ?_, ?_, ?_, ?_⟩
  · intro i hi hm
    rw [← h.old i hi hm]
    refine k.old i (Nat.lt_of_lt_of_le hi h.size) ?_
    rintro ⟨E, hE, hb⟩
    rcases (h.own E (List.mem_append_left _ hE) i hb).2 with h2 | h2
    · omega
    · exact hm h2
  · intro i hi hm
    rw [← h.new i hi hm]
    refine k.new i (Nat.lt_of_lt_of_le hi h.size) ?_
    rintro ⟨E, hE, hb⟩
    rcases (h.own E (List.mem_append_left _ hE) i hb).2 with h2 | h2
    · omega
    · exact hm h2
  · intro E hE
    rcases List.mem_append.1 hE with hE | hE
    · exact k.ents E hE
    · exact E.loc k.le (keep E hE) (h.ents E (List.mem_append_right _ hE))
  · intro E hE b hb
    rcases List.mem_append.1 hE with hE | hE
    · refine ⟨(k.own E hE b hb).1, ?_⟩
      rcases (k.own E hE b hb).2 with h2 | ⟨E', hE', h2⟩
      · exact .inl (Nat.le_trans h.size h2)
      · exact (h.own E' (List.mem_append_left _ hE') b h2).2
    · have h1 := h.own E (List.mem_append_right _ hE) b hb
      refine ⟨?_, h1.2⟩
      rw [k.new b (h.lt (List.mem_append_right _ hE) hb)]
      · exact h1.1
      · rintro ⟨E', hE', hb'⟩
        exact hd.2.2 E' hE' E hE b hb' hb
  · refine List.pairwise_append.2 ⟨k.dis, hd.2.1, ?_⟩
    intro E hE E' hE' b hb hb'
    rcases (k.own E hE b hb).2 with h2 | ⟨E'', hE'', h2⟩
    · have := h.lt (List.mem_append_right _ hE') hb'
      exact absurd this (by simpa using h2)
    · exact hd.2.2 E'' hE'' E' hE' b h2 hb'
theorem MmR.perm {c : Ctx} {H H' : List Ent} {ρ : Ro} {w : World} (h : MmR c H ρ w) (hp : H.Perm H') : MmR c H' ρ w :=
  ⟨h.os, h.tape, h.output, h.size, h.old, h.fits, h.le, h.new, fun E hE => h.ents E (hp.mem_iff.2 hE), fun E hE => h.own E (hp.mem_iff.2 hE),
    (hp.pairwise_iff fun h => h.symm).1 h.dis⟩
theorem MmR.drop {c : Ctx} {E : Ent} {H : List Ent} {ρ : Ro} {w : World} (h : MmR c (E :: H) ρ w) : MmR c H ρ w :=
  ⟨h.os, h.tape, h.output, h.size, h.old, h.fits, h.le, h.new, fun E hE => h.ents E (List.mem_cons_of_mem _ hE), fun E hE => h.own E (List.mem_cons_of_mem _ hE), (List.pairwise_cons.1 h.dis).2⟩
theorem MmR.fact {c : Ctx} {H : List Ent} {ρ : Ro} {w : World} (h : MmR c H ρ w) (d : Dat) (hd : d.f ρ) : MmR c (dat d :: H) ρ w :=
  ⟨h.os, h.tape, h.output, h.size, h.old, h.fits, h.le, h.new, fun E hE => by
      rcases List.mem_cons.1 hE with rfl | hE
      · exact dat_ok.2 hd
      · exact h.ents E hE,
    fun E hE b hb => by
      rcases List.mem_cons.1 hE with rfl | hE
      · rw [dat_key] at hb; cases hb
      · exact h.own E hE b hb,
    List.pairwise_cons.2 ⟨fun E _ b hb => (by rw [dat_key] at hb; cases hb), h.dis⟩⟩
theorem MmR.drawn {c : Ctx} {H : List Ent} {ρ : Ro} {w : World} (h : MmR c H ρ w) : MmR c H ρ { w with drawn := w.drawn + 1 } :=
  ⟨h.os, ⟨h.tape.1, fun d => Nat.le_succ_of_le (h.tape.2 d)⟩, h.output, h.size, h.old, h.fits, h.le, h.new, fun E hE => E.loc (w := w) (Ro.le_refl _) (fun _ _ => rfl) (h.ents E hE), h.own, h.dis⟩
theorem Mm.drawn (c : Ctx) (H : List Ent) : Drawn (Mm c H) := fun _ h => let ⟨_, k⟩ := h.out; Mm.mk k.drawn
def Start (H : List Ent) (ρ : Ro) (w : World) : Prop := MmR ⟨w, ρ, owns H, True⟩ H ρ w
theorem MmR.start {c : Ctx} {H R : List Ent} {ρ : Ro} {w : World} (h : MmR c (H ++ R) ρ w) : Start H ρ w :=
  ⟨rfl, ⟨rfl, fun _ => Nat.le_refl _⟩, rfl, Nat.le_refl _, fun _ _ _ => rfl, h.fits, Ro.le_refl _, fun _ _ _ => rfl, fun E hE => h.ents E (List.mem_append_left _ hE),
    fun E hE b hb => ⟨(h.own E (List.mem_append_left _ hE) b hb).1, .inr ⟨E, hE, hb⟩⟩, (List.pairwise_append.1 h.dis).1⟩
def FnH (P : Program) (f : FuncId) (args : Array Value) (pre : List Ent) (post : Value → List Ent → Prop) : Prop :=
  ∀ w ρ, Start pre ρ w → Calls P f args w fun e w' => ∃ v H', e = .returned v ∧ post v H' ∧ Mm ⟨w, ρ, owns pre, True⟩ H' w'
def FnG (dr : Prop) (P : Program) (f : FuncId) (args : Array Value) (pre : List Ent) (post : Value → List Ent → Prop) : Prop :=
  ∀ w ρ, Start pre ρ w → Calls P f args w fun e w' => ∃ v H', e = .returned v ∧ post v H' ∧ Mm ⟨w, ρ, owns pre, dr⟩ H' w'
theorem MmR.dr {w0 : World} {ρ0 : Ro} {M : Nat → Prop} {d d' : Prop} {H : List Ent} {ρ : Ro} {w : World} (h : MmR ⟨w0, ρ0, M, d⟩ H ρ w) (hd : d' → d) : MmR ⟨w0, ρ0, M, d'⟩ H ρ w :=
  ⟨h.os, ⟨h.tape.1, fun q => h.tape.2 (hd q)⟩, h.output, h.size, h.old, h.fits, h.le, h.new, h.ents, h.own, h.dis⟩
theorem Mm.dr {w0 : World} {ρ0 : Ro} {M : Nat → Prop} {d d' : Prop} {H : List Ent} {w : World} (h : Mm ⟨w0, ρ0, M, d⟩ H w) (hd : d' → d) : Mm ⟨w0, ρ0, M, d'⟩ H w := let ⟨_, k⟩ := h.out; Mm.mk (k.dr hd)
theorem FnH.gen {P : Program} {f : FuncId} {args : Array Value} {pre : List Ent} {post : Value → List Ent → Prop} (h : FnH P f args pre post) : FnG True P f args pre post := h
theorem FnG.dr {d d' : Prop} {P : Program} {f : FuncId} {args : Array Value} {pre : List Ent} {post : Value → List Ent → Prop} (h : FnG d P f args pre post) (hd : d' → d) : FnG d' P f args pre post :=
  fun w ρ hs => (h w ρ hs).mono fun _ _ ⟨v, H', h1, h2, h3⟩ => ⟨v, H', h1, h2, h3.dr hd⟩
theorem FnG.mono {d : Prop} {P : Program} {f : FuncId} {args : Array Value} {pre : List Ent} {post post' : Value → List Ent → Prop} (h : FnG d P f args pre post) (hp : ∀ v H, post v H → post' v H) : FnG d P f args pre post' :=
  fun w ρ hs => (h w ρ hs).mono fun _ _ ⟨v, H', h1, h2, h3⟩ => ⟨v, H', h1, hp v H' h2, h3⟩
abbrev FnW := FnG False
def FnVw (P : Program) (f : FuncId) (args : Array Value) (ds : List Dat) (v : Value) : Prop := FnW P f args (ds.map dat) fun u _ => u = v
def FnV (P : Program) (f : FuncId) (args : Array Value) (ds : List Dat) (v : Value) : Prop := FnH P f args (ds.map dat) fun u _ => u = v
theorem FnH.mono {P : Program} {f : FuncId} {args : Array Value} {pre : List Ent} {post post' : Value → List Ent → Prop} (h : FnH P f args pre post) (hp : ∀ v H, post v H → post' v H) : FnH P f args pre post' :=
  fun w ρ hs => (h w ρ hs).mono fun _ _ ⟨v, H', h1, h2, h3⟩ => ⟨v, H', h1, hp v H' h2, h3⟩
theorem MmR.dats {c : Ctx} {H : List Ent} {ρ : Ro} {w : World} (h : MmR c H ρ w) : ∀ ds : List Dat, (∀ d ∈ ds, d.f ρ) → MmR c (ds.map dat ++ H) ρ w
  | [], _ => h
  | d :: ds, hd => (h.dats ds fun d' h' => hd d' (List.mem_cons_of_mem _ h')).fact d (hd d (List.mem_cons_self ..))
section classes
class InD (d : Dat) (H : List Ent) : Prop where
  mem : dat d ∈ H
instance (priority := high) InD.here (d : Dat) (H : List Ent) : InD d (dat d :: H) := ⟨List.mem_cons_self ..⟩
instance InD.there (d : Dat) (E : Ent) (H : List Ent) [h : InD d H] : InD d (E :: H) := ⟨List.mem_cons_of_mem _ h.mem⟩
class InDs (ds : List Dat) (H : List Ent) : Prop where
  mem : ∀ d ∈ ds, dat d ∈ H
instance InDs.nil (H : List Ent) : InDs [] H := ⟨fun _ h => by simp at h⟩
instance InDs.cons (d : Dat) (ds : List Dat) (H : List Ent) [h : InD d H] [k : InDs ds H] : InDs (d :: ds) H :=
  ⟨fun d' h' => by rcases List.mem_cons.1 h' with rfl | h'; exact h.mem; exact k.mem d' h'⟩
class InB (b : Nat) (H : List Ent) (o : outParam Obj) : Prop where
  mem : blk b o ∈ H
instance (priority := high) InB.here (b : Nat) (o : Obj) (H : List Ent) : InB b (blk b o :: H) o := ⟨List.mem_cons_self ..⟩
instance InB.there (b : Nat) (o : Obj) (E : Ent) (H : List Ent) [h : InB b H o] : InB b (E :: H) o := ⟨List.mem_cons_of_mem _ h.mem⟩
class TakeB (b : Nat) (H : List Ent) (o : outParam Obj) (R : outParam (List Ent)) : Prop where
  perm : H.Perm (blk b o :: R)
instance (priority := high) TakeB.here (b : Nat) (o : Obj) (H : List Ent) : TakeB b (blk b o :: H) o H := ⟨.refl _⟩
instance TakeB.there (b : Nat) (o : Obj) (E : Ent) (H R : List Ent) [h : TakeB b H o R] : TakeB b (E :: H) o (E :: R) := ⟨(h.perm.cons E).trans (.swap ..)⟩
class TakeR (v : Value) (H : List Ent) (e : outParam TypeId) (size n : outParam Nat) (cs : outParam (List Value)) (R : outParam (List Ent)) : Prop where
  perm : H.Perm (row v e size n cs :: R)
instance (priority := high) TakeR.here (v : Value) (e : TypeId) (size n : Nat) (cs : List Value) (H : List Ent) : TakeR v (row v e size n cs :: H) e size n cs H := ⟨.refl _⟩
instance TakeR.there (v : Value) (e : TypeId) (size n : Nat) (cs : List Value) (E : Ent) (H R : List Ent) [h : TakeR v H e size n cs R] : TakeR v (E :: H) e size n cs (E :: R) := ⟨(h.perm.cons E).trans (.swap ..)⟩
class TakeE (E : Ent) (H : List Ent) (R : outParam (List Ent)) : Prop where
  perm : H.Perm (E :: R)
instance (priority := high) TakeE.here (E : Ent) (H : List Ent) : TakeE E (E :: H) H := ⟨.refl _⟩
instance TakeE.there (E E' : Ent) (H R : List Ent) [h : TakeE E H R] : TakeE E (E' :: H) (E' :: R) := ⟨(h.perm.cons E').trans (.swap ..)⟩
class TakeL (L H : List Ent) (R : outParam (List Ent)) : Prop where
  perm : H.Perm (L ++ R)
instance TakeL.nil (H : List Ent) : TakeL [] H H := ⟨.refl _⟩
instance TakeL.cons (E : Ent) (L H R R' : List Ent) [h : TakeE E H R] [k : TakeL L R R'] : TakeL (E :: L) H R' := ⟨h.perm.trans (k.perm.cons E)⟩
end classes
theorem Mm.take {c : Ctx} {L H R : List Ent} {w : World} [t : TakeL L H R] (h : Mm c H w) : Mm c (L ++ R) w := let ⟨_, k⟩ := h.out; Mm.mk (k.perm t.perm)
theorem MmR.left {c : Ctx} {L R : List Ent} {ρ : Ro} {w : World} (h : MmR c (L ++ R) ρ w) : MmR c L ρ w := by
  induction R generalizing L with
  | nil => simpa using h
  | cons E R ih => exact ih (h.perm List.perm_middle).drop
theorem Mm.sub {c : Ctx} {L H R : List Ent} {w : World} [t : TakeL L H R] (h : Mm c H w) : Mm c L w := let ⟨_, k⟩ := h.out; Mm.mk (k.perm t.perm).left
theorem Mm.fact {c : Ctx} {H : List Ent} {w : World} (h : Mm c H w) (d : Dat) (hd : ∀ ρ, MmR c H ρ w → d.f ρ) : Mm c (dat d :: H) w := let ⟨_, k⟩ := h.out; Mm.mk (k.fact d (hd _ k))
section
variable {P : Program} {n : Nat} {F : Fr} {c : Ctx} {H R : List Ent} {Q : Exit → Act → World → Prop} {ops : Array Oper} {T : Act → World → Prop}
theorem St.fact (d : Dat) (hd : ∀ ρ w, MmR c H ρ w → d.f ρ) (h : St n F (Mm c (dat d :: H)) T) : St n F (Mm c H) T :=
  h.weak fun _ hw => hw.fact d fun ρ k => hd ρ _ k
theorem St.sub (L : List Ent) [t : TakeL L H R] (h : St n F (Mm c L) T) : St n F (Mm c H) T := h.weak fun _ hw => hw.sub
theorem St.take (L : List Ent) [t : TakeL L H R] (h : St n F (Mm c (L ++ R)) T) : St n F (Mm c H) T := h.weak fun _ hw => hw.take
theorem St.app0 (h : St n F (Mm c R) T) : St n F (Mm c ([] ++ R)) T := h
theorem St.app1 {a : Ent} (h : St n F (Mm c (a :: R)) T) : St n F (Mm c ([a] ++ R)) T := h
theorem St.app2 {a b : Ent} (h : St n F (Mm c (a :: b :: R)) T) : St n F (Mm c ([a, b] ++ R)) T := h
theorem St.app3 {a b d : Ent} (h : St n F (Mm c (a :: b :: d :: R)) T) : St n F (Mm c ([a, b, d] ++ R)) T := h
theorem St.app4 {a b d e : Ent} (h : St n F (Mm c (a :: b :: d :: e :: R)) T) : St n F (Mm c ([a, b, d, e] ++ R)) T := h
def Do (P : Program) (n : Nat) (F : Fr) (c : Ctx) (H : List Ent) (op : Op) (ty : TypeId) (K : Value → List Ent → Prop) : Prop :=
  ∀ a w ρ, Has n a F → MmR c H ρ w → ∃ v w' ρ' H', (execOp a.eval (bare op ty)).run P w = .ok v w' ∧ (∃ u, (v = .value u ∨ (v = .skip ∧ u = undef)) ∧ K u H') ∧ MmR c H' ρ' w'
theorem Do.wp {op : Op} {ty : TypeId} {K : Value → List Ent → Prop} (h : Do P n F c H op ty K) {d : Option Tmp} {pos : String} {after : Array Edge} {g : Option (Nat × Bool)} {a : Act} {w : World}
    (ha : Has n a F) (hw : Mm c H w) {J : Act → World → Prop} (hk : ∀ u H' w', K u H' → Mm c H' w' → J (a.put d u) w') :
    ({ dst := d, op := op, type := ty, pos := pos, after := after, guard := g } : Oper).wp P a w J Q := by
  obtain ⟨ρ, hm⟩ := hw.out
  obtain ⟨v, w', ρ', H', hr, ⟨u, hv, hK⟩, hm'⟩ := h a w ρ ha hm
  unfold Oper.wp Oper.upon
  rw [execOp_bare]
  simp only at hr ⊢
  rw [hr]
  rcases hv with rfl | ⟨rfl, rfl⟩
  · exact hk _ _ _ hK (Mm.mk hm')
  · exact hk _ _ _ hK (Mm.mk hm')
theorem St.do_ {d : Nat} {op : Op} {ty : TypeId} {pos : String} {after : Array Edge} {rest : List Oper} {K : Value → List Ent → Prop} (hev : Do P n F c H op ty K) (hd : Nat.ble (d + 1) n = true)
    (h : ∀ v H', K v H' → St n ((d, v) :: F) (Mm c H') (wpList P ops Q rest)) :
    St n F (Mm c H) (wpList P ops Q ({ dst := some d, op := op, type := ty, pos := pos, after := after, guard := none } :: rest)) :=
  fun _ _ ha hw => wpList_wp rfl (hev.wp ha hw fun u H' w' hK hw' => h u H' hK _ w' (ha.put (Nat.le_of_ble_eq_true hd) u) hw')
theorem St.do_none {op : Op} {ty : TypeId} {pos : String} {after : Array Edge} {rest : List Oper} {K : Value → List Ent → Prop} (hev : Do P n F c H op ty K)
    (h : ∀ v H', K v H' → St n F (Mm c H') (wpList P ops Q rest)) :
    St n F (Mm c H) (wpList P ops Q ({ dst := none, op := op, type := ty, pos := pos, after := after, guard := none } :: rest)) :=
  fun _ _ ha hw => wpList_wp rfl (hev.wp ha hw fun u H' w' hK hw' => h u H' hK _ w' (ha.put_none u) hw')
end
def argF : Nat → List Value → Fr
  | _, [] => []
  | k, v :: vs => (k, v) :: argF (k + 1) vs
theorem argF_look {t : Nat} {v : Value} : ∀ (l : List Value) (i : Nat), look (argF i l) t = some v → i ≤ t ∧ l[t - i]? = some v
  | [], i, h => by simp [argF, look] at h
  | x :: l, i, h => by
    simp only [argF, look] at h
    cases hb : Nat.beq t i with
    | true =>
      have e : t = i := Nat.eq_of_beq_eq_true hb
      subst e
      simp only [hb, cond_true, Option.some.injEq] at h
      subst h
      simp
    | false =>
      have e : t ≠ i := Nat.ne_of_beq_eq_false hb
      simp only [hb, cond_false] at h
      obtain ⟨h1, h2⟩ := argF_look l (i + 1) h
      refine ⟨by omega, ?_⟩
      have : t - i = (t - (i + 1)) + 1 := by omega
      rw [this, List.getElem?_cons_succ]
      exact h2
theorem FnH.body {P : Program} {f : FuncId} {fn : Func} {cd : Code} {args : List Value} {pre : List Ent} {post : Value → List Ent → Prop} (n : Nat)
    (hf : P.funcs[f]? = some fn) (hb : fn.body = some cd) (hn : fn.ntmps = n) (hargs : Nat.ble args.length n = true)
    (h : ∀ c : Ctx, St n (argF 0 args) (Mm c pre) (cd.wp P (bodyPost P fn fun e w' => ∃ v H', e = .returned v ∧ post v H' ∧ Mm c H' w'))) :
    FnH P f args.toArray pre post := by
  intro w ρ hs
  refine calls_of_wp hf hb (h ⟨w, ρ, owns pre, True⟩ _ w ⟨?_, rfl, ?_⟩ (Mm.mk hs))
  · have := Nat.le_of_ble_eq_true hargs
    simp [hn]
    omega
  · intro t v ht
    obtain ⟨_, h2⟩ := argF_look args 0 ht
    simp only [Nat.sub_zero] at h2
    have hlt : t < args.length := (List.getElem?_eq_some_iff.1 h2).1
    simp only [List.size_toArray, Array.getElem?_append, hlt, if_true]
    simpa using h2
theorem FnW.body {P : Program} {f : FuncId} {fn : Func} {cd : Code} {args : List Value} {pre : List Ent} {post : Value → List Ent → Prop} (n : Nat)
    (hf : P.funcs[f]? = some fn) (hb : fn.body = some cd) (hn : fn.ntmps = n) (hargs : Nat.ble args.length n = true)
    (h : ∀ c : Ctx, ¬ c.dr → St n (argF 0 args) (Mm c pre) (cd.wp P (bodyPost P fn fun e w' => ∃ v H', e = .returned v ∧ post v H' ∧ Mm c H' w'))) :
    FnW P f args.toArray pre post := by
  intro w ρ hs
  refine calls_of_wp hf hb (h ⟨w, ρ, owns pre, False⟩ (fun h => h) _ w ⟨?_, rfl, ?_⟩ (Mm.mk (hs.dr fun h => h.elim)))
  · have := Nat.le_of_ble_eq_true hargs
    simp [hn]
    omega
  · intro t v ht
    obtain ⟨_, h2⟩ := argF_look args 0 ht
    simp only [Nat.sub_zero] at h2
    have hlt : t < args.length := (List.getElem?_eq_some_iff.1 h2).1
    simp only [List.size_toArray, Array.getElem?_append, hlt, if_true]
    simpa using h2
theorem FnVw.body {P : Program} {f : FuncId} {fn : Func} {cd : Code} {args : List Value} {u : Value} {ds : List Dat} (n : Nat)
    (hf : P.funcs[f]? = some fn) (hb : fn.body = some cd) (hn : fn.ntmps = n) (hargs : Nat.ble args.length n = true)
    (h : ∀ c : Ctx, ¬ c.dr → St n (argF 0 args) (Mm c (ds.map dat)) (cd.wp P (bodyPost P fn fun e w' => ∃ v H', e = .returned v ∧ v = u ∧ Mm c H' w'))) : FnVw P f args.toArray ds u := FnW.body n hf hb hn hargs h
theorem FnV.body0 {P : Program} {f : FuncId} {fn : Func} {cd : Code} {args : List Value} {u : Value} (n : Nat)
    (hf : P.funcs[f]? = some fn) (hb : fn.body = some cd) (hn : fn.ntmps = n) (hargs : Nat.ble args.length n = true)
    (h : ∀ c : Ctx, St n (argF 0 args) (Mm c []) (cd.wp P (bodyPost P fn fun e w' => ∃ v H', e = .returned v ∧ v = u ∧ Mm c H' w'))) : FnV P f args.toArray [] u := FnH.body n hf hb hn hargs h
theorem FnV.body1 {P : Program} {f : FuncId} {fn : Func} {cd : Code} {args : List Value} {u : Value} {d1 : Dat} (n : Nat)
    (hf : P.funcs[f]? = some fn) (hb : fn.body = some cd) (hn : fn.ntmps = n) (hargs : Nat.ble args.length n = true)
    (h : ∀ c : Ctx, St n (argF 0 args) (Mm c [dat d1]) (cd.wp P (bodyPost P fn fun e w' => ∃ v H', e = .returned v ∧ v = u ∧ Mm c H' w'))) : FnV P f args.toArray [d1] u := FnH.body n hf hb hn hargs h
theorem FnV.body2 {P : Program} {f : FuncId} {fn : Func} {cd : Code} {args : List Value} {u : Value} {d1 d2 : Dat} (n : Nat)
    (hf : P.funcs[f]? = some fn) (hb : fn.body = some cd) (hn : fn.ntmps = n) (hargs : Nat.ble args.length n = true)
    (h : ∀ c : Ctx, St n (argF 0 args) (Mm c [dat d1, dat d2]) (cd.wp P (bodyPost P fn fun e w' => ∃ v H', e = .returned v ∧ v = u ∧ Mm c H' w'))) : FnV P f args.toArray [d1, d2] u := FnH.body n hf hb hn hargs h
theorem FnV.body3 {P : Program} {f : FuncId} {fn : Func} {cd : Code} {args : List Value} {u : Value} {d1 d2 d3 : Dat} (n : Nat)
    (hf : P.funcs[f]? = some fn) (hb : fn.body = some cd) (hn : fn.ntmps = n) (hargs : Nat.ble args.length n = true)
    (h : ∀ c : Ctx, St n (argF 0 args) (Mm c [dat d1, dat d2, dat d3]) (cd.wp P (bodyPost P fn fun e w' => ∃ v H', e = .returned v ∧ v = u ∧ Mm c H' w'))) : FnV P f args.toArray [d1, d2, d3] u := FnH.body n hf hb hn hargs h
theorem FnV.body4 {P : Program} {f : FuncId} {fn : Func} {cd : Code} {args : List Value} {u : Value} {d1 d2 d3 d4 : Dat} (n : Nat)
    (hf : P.funcs[f]? = some fn) (hb : fn.body = some cd) (hn : fn.ntmps = n) (hargs : Nat.ble args.length n = true)
    (h : ∀ c : Ctx, St n (argF 0 args) (Mm c [dat d1, dat d2, dat d3, dat d4]) (cd.wp P (bodyPost P fn fun e w' => ∃ v H', e = .returned v ∧ v = u ∧ Mm c H' w'))) : FnV P f args.toArray [d1, d2, d3, d4] u := FnH.body n hf hb hn hargs h
theorem Sub.nil {F : Fr} : Sub [] F := trivial
theorem Sub.cons {F F' : Fr} {k : Nat} {v : Value} (h : J.look F k = some v) (h' : Sub F' F) : Sub ((k, v) :: F') F := ⟨h, h'⟩
def RV (P : Program) (F : Fr) (H : List Ent) : ResultVar → Value → Prop
  | .tmp t, v => look F t = some v
  | .cell t ty, v => ∃ b C e fr, look F t = some (.pointer (some ⟨b, 0, none⟩)) ∧ blk b (.cells C e fr) ∈ H ∧
      ((∃ fs, P.underlying ty = some (.struct fs)) ∧ (P.info? ty).map (·.size) = some C.size ∧ v = .agg C ∨
       (match P.underlying ty with | some (.struct _) | some (.array _ _) | none => False | some _ => True) ∧ C[0]? = some v)
theorem cell?_of_blk {w : World} {b off : Nat} {C : Array Value} {e : TypeId} {fr : Nat × Nat} (h : w.heap[b]? = some (.cells C e fr)) : w.cell? ⟨b, off, none⟩ = C[off]? := by
  simp [World.cell?, h]
theorem run_loadVar_agg {P : Program} {w : World} {ty : TypeId} {b off : Nat} {L : List Value} {d : TypeDesc} (hd : P.underlying ty = some d) (hk : (match d with | .struct _ | .array _ _ => True | _ => False))
    (hs : (P.info? ty).map (·.size) = some L.length) (hL : ∀ j v, L[j]? = some v → w.cell? ⟨b, off + j, none⟩ = some v) : (loadVar ty ⟨b, off, none⟩).run P w = .ok (.agg L.toArray) w := by
  obtain ⟨i, hi, hsz⟩ := Option.map_eq_some_iff.1 hs
  have h1 := run_loadCells_list (P := P) w ⟨b, off, none⟩ L (fun j v h => by rw [Addr.add_lit]; exact hL j v h)
  have h2 : (isAgg ty).run P w = .ok true w := by
    cases d <;> simp at hk <;> simp [isAgg, run_underlying hd]
  simp [loadVar, h2, sizeOf, typeInfo, hi, hsz, h1]
theorem run_loadVar_one {P : Program} {w : World} {ty : TypeId} {a : Addr} {v : Value} {d : TypeDesc} (hd : P.underlying ty = some d) (hk : (match d with | .struct _ | .array _ _ => False | _ => True))
    (hv : w.cell? a = some v) : (loadVar ty a).run P w = .ok v w := by
  have h2 : (isAgg ty).run P w = .ok false w := by
    cases d <;> simp at hk <;> simp [isAgg, run_underlying hd]
  simp [loadVar, h2, hv]
def rvSem (a : Act) : ResultVar → Sem Value
  | .tmp t => pure (a.tmps.getD t undef)
  | .cell t ty => do loadVar ty (← asAddr (a.tmps.getD t undef))
theorem RV.run {P : Program} {n : Nat} {F : Fr} {H : List Ent} {r : ResultVar} {v : Value} (h : RV P F H r v) {a : Act} (ha : Has n a F) {c : Ctx} {w : World} (hw : Mm c H w) :
    (rvSem a r).run P w = .ok v w := by
  obtain ⟨ρ, hm⟩ := hw.out
  cases r with
  | tmp t => simp [RV] at h; simp [rvSem, Array.getD_eq_getD_getElem?, ha.slot _ _ h]
  | cell t ty =>
    obtain ⟨b, C, e, fr, h1, h2, h3⟩ := h
    have hb := blk_ok.1 (hm.ents _ h2)
    have hc : ∀ off, w.cell? ⟨b, off, none⟩ = C[off]? := fun off => cell?_of_blk hb
    have ht := ha.slot _ _ h1
    simp only [rvSem, Array.getD_eq_getD_getElem?, ht, Option.getD_some, asAddr, Sem.run_bind, Sem.run_pure, Result.andThen_ok]
    rcases h3 with ⟨⟨fs, h4⟩, h5, rfl⟩ | ⟨h4, h5⟩
    · have := run_loadVar_agg (P := P) (w := w) (ty := ty) (b := b) (off := 0) (L := C.toList) h4 trivial (by simpa using h5) (fun j v hj => by rw [hc, Nat.zero_add]; simpa using hj)
      simpa using this
    · cases hd : P.underlying ty with
      | none => rw [hd] at h4; exact h4.elim
      | some d => rw [hd] at h4; exact run_loadVar_one hd (by cases d <;> simp_all) (by rw [hc]; exact h5)
def RVs (P : Program) (F : Fr) (H : List Ent) : List ResultVar → List Value → Prop
  | [], [] => True
  | r :: rs, v :: vs => RV P F H r v ∧ RVs P F H rs vs
  | _, _ => False
theorem RVs.run {P : Program} {n : Nat} {F : Fr} {H : List Ent} {a : Act} (ha : Has n a F) {c : Ctx} {w : World} (hw : Mm c H w) : ∀ {rs : List ResultVar} {vs : List Value}, RVs P F H rs vs →
    (rs.mapM (rvSem a)).run P w = .ok vs w
  | [], [], _ => by simp
  | r :: rs, v :: vs, h => by
    have h1 := RV.run h.1 ha hw
    have h2 := RVs.run ha hw h.2
    simp only [List.mapM_cons, Sem.run_bind, h1, Result.andThen_ok, h2, Sem.run_pure]
def ret1 : List Value → Value
  | [v] => v
  | vs => .tuple vs.toArray
theorem results_eq (fn : Func) (a : Act) : results fn a.tmps = (fn.results.mapM (rvSem a) >>= fun vs => pure (if h : vs.size = 1 then vs[0] else .tuple vs)) := by
  unfold results
  congr 2
theorem St.rets {P : Program} {n : Nat} {F : Fr} {c : Ctx} {H : List Ent} {fn : Func} {post : Value → List Ent → Prop} {rl : List ResultVar} (vs : List Value) (H' : List Ent)
    (hr : fn.results = rl.toArray) (hv : RVs P F H rl vs) (hp : post (ret1 vs) H') (hH : ∀ w, Mm c H w → Mm c H' w) :
    St n F (Mm c H) (bodyPost P fn (fun e w' => ∃ v H', e = .returned v ∧ post v H' ∧ Mm c H' w') .ret) := by
  intro a w ha hw
  refine ⟨ha.defers, _, ?_, _, H', rfl, hp, hH w hw⟩
  have h2 := RVs.run ha hw hv
  rw [results_eq, hr]
  simp only [List.mapM_toArray, Sem.run_bind, Sem.run_map, h2, Result.andThen_ok, Sem.run_pure]
  congr 1
  cases vs with
  | nil => rfl
  | cons v vs => cases vs <;> rfl
theorem St.rets_normal {P : Program} {n : Nat} {F : Fr} {c : Ctx} {H : List Ent} {fn : Func} {R : Ending → World → Prop}
    (h : St n F (Mm c H) (bodyPost P fn R .ret)) : St n F (Mm c H) (bodyPost P fn R .normal) := h
end Go.J

/-
  (YtolmidffiegkaaaDoorJ3)
  The laws of single operations, as the walks use them: what an operation yields where its operands are known and its memory is at hand.
  Conditions: none; everything holds of any program.
-/
namespace Go.J
open Go
abbrev Str := List UInt8
abbrev sv (l : Str) : Value := .string ⟨l.toArray⟩
abbrev iv (n : Int) : Value := .int .i64 n
structure Rp (α : Type) where
 size : Nat
 pos : 0 < size
 cells : α → List Value
 wf : α → Prop
 len : ∀ x, (cells x).length = size
 one : ∀ x, ∀ u ∈ cells x, u.oneCell' = true
def i64ok (n : Int) : Prop := -9223372036854775808 ≤ n ∧ n ≤ 9223372036854775807
def intR : Rp Int := ⟨1, by decide, fun x => [.int .i64 x], i64ok, fun _ => rfl, fun _ u h => by simp at h; subst h; rfl⟩
def strR : Rp Str := ⟨1, by decide, fun x => [sv x], fun x => x.length ≤ 140737488351232, fun _ => rfl, fun _ u h => by simp at h; subst h; rfl⟩
def valR : Rp { v : Value // v.oneCell' = true } := ⟨1, by decide, fun x => [x.1], fun _ => True, fun _ => rfl, fun x u h => by simp at h; subst h; exact x.2⟩
def rows {α : Type} (R : Rp α) (xs : List α) : List Value := xs.flatMap R.cells
theorem rows_length {α : Type} (R : Rp α) (xs : List α) : (rows R xs).length = xs.length * R.size := by
 induction xs with
 | nil => simp [rows]
 | cons x xs ih => simp only [rows, List.flatMap_cons, List.length_append, R.len, List.length_cons, Nat.add_mul] at ih ⊢; omega
theorem rows_get {α : Type} (R : Rp α) : ∀ (xs : List α) (k j : Nat) (x : α), xs[k]? = some x → j < R.size → (rows R xs)[k * R.size + j]? = (R.cells x)[j]?
 | [], _, _, _, h, _ => by simp at h
 | y :: xs, 0, j, x, h, hj => by
  simp only [List.getElem?_cons_zero, Option.some.injEq] at h
  subst h
  simp only [rows, List.flatMap_cons, Nat.zero_mul, Nat.zero_add]
  rw [List.getElem?_append_left (by rw [R.len]; exact hj)]
 | y :: xs, k + 1, j, x, h, hj => by
  simp only [List.getElem?_cons_succ] at h
  have ih := rows_get R xs k j x h hj
  simp only [rows, List.flatMap_cons] at ih ⊢
  rw [List.getElem?_append_right (by rw [R.len, Nat.add_mul]; omega), R.len]
  have e : (k + 1) * R.size + j - R.size = k * R.size + j := by rw [Nat.add_mul]; omega
  rw [e]
  exact ih
def sl {α : Type} (R : Rp α) (v : Value) (xs : List α) : Dat where
 f ρ := ∃ a cap, v = .slice a xs.length cap ∧ xs.length ≤ cap ∧ cap ≤ maxLen ∧ (∀ x ∈ xs, R.wf x) ∧
  (xs = [] ∨ ∃ b off C e fr, a = some ⟨b, off, none⟩ ∧ ρ b = some (.cells C e fr) ∧ ∀ j u, (rows R xs)[j]? = some u → C[off + j]? = some u)
 mono ρ ρ' h := by
  rintro ⟨a, cap, h1, h2, h3, h4, h5⟩
  refine ⟨a, cap, h1, h2, h3, h4, ?_⟩
  rcases h5 with h5 | ⟨b, off, C, e, fr, h6, h7, h8⟩
  ·exact .inl h5
  ·exact .inr ⟨b, off, C, e, fr, h6, h _ _ h7, h8⟩
class InS (v : Value) (H : List Ent) (α : outParam Type) (R : outParam (Rp α)) (xs : outParam (List α)) : Prop where
 mem : dat (sl R v xs) ∈ H
instance (priority := high) InS.here {α : Type} (v : Value) (R : Rp α) (xs : List α) (H : List Ent) : InS v (dat (sl R v xs) :: H) α R xs := ⟨List.mem_cons_self ..⟩
instance InS.there {α : Type} (v : Value) (R : Rp α) (xs : List α) (E : Ent) (H : List Ent) [h : InS v H α R xs] : InS v (E :: H) α R xs := ⟨List.mem_cons_of_mem _ h.mem⟩
class Cel {α : Type} (R : Rp α) (x : α) (L : outParam (List Value)) : Prop where
 eq : R.cells x = L
@[irreducible] def eptr (v : Value) (size k off : Nat) : Value :=
 match v with
 | .slice (some a) _ _ => .pointer (some (a.add (k * size + off)))
 | _ => undef
theorem eptr_slice (b o n c size k off : Nat) : eptr (.slice (some ⟨b, o, none⟩) n c) size k off = .pointer (some ⟨b, o + (k * size + off), none⟩) := by
 unfold eptr; simp only [Addr.add_lit]
section
variable {P : Program} {n : Nat} {F : Fr} {A : World → Prop} {c : Ctx} {H : List Ent} {ty : TypeId} {x y z : Operand} {v : Value}
theorem Ev.of_run {op : Op} (h : ∀ a w, Has n a F → A w → (execOp a.eval (bare op ty)).run P w = .ok (.value v) w) : Ev P n F A op ty v :=
 fun a w ha hw => by rw [h a w ha hw]; exact ⟨rfl, rfl⟩
theorem Ev.move (hx : Opd F x v) : Ev P n F A (.move x) ty v := .of_run fun a w ha _ => by simp [execOp, hx.eval ha]
theorem Ev.assign (hx : Opd F x v) : Ev P n F A (.assign x) ty v := .of_run fun a w ha _ => by simp [execOp, hx.eval ha]
theorem Ev.and {p q : Bool} (hx : Opd F x (.bool p)) (hy : p = true → Opd F y (.bool q)) : Ev P n F A (.pick x y (.const (.bool false))) ty (.bool (p && q)) := .of_run fun a w ha _ => by
 cases p with
 | true => simp only [execOp, hx.eval ha, (hy rfl).eval ha]; simp [asBool]
 | false => simp only [execOp, hx.eval ha]; simp [asBool, Act.eval]
theorem Ev.or {p q : Bool} (hx : Opd F x (.bool p)) (hy : (!p) = true → Opd F y (.bool q)) : Ev P n F A (.pick x (.const (.bool true)) y) ty (.bool (p || q)) := .of_run fun a w ha _ => by
 cases p with
 | true => simp only [execOp, hx.eval ha]; simp [asBool, Act.eval]
 | false => simp only [execOp, hx.eval ha, (hy rfl).eval ha]; simp [asBool]
theorem Ev.not {p : Bool} (hx : Opd F x (.bool p)) {t : TypeId} : Ev P n F A (.unOp .not t x) ty (.bool (!p)) := .of_run fun a w ha _ => by
 simp [execOp, hx.eval ha, Op.unary]
section ints
variable {k : IntKind} {i j : Int} {t u : TypeId}
theorem Ev.lss (hx : Opd F x (.int k i)) (hy : Opd F y (.int k j)) : Ev P n F A (.binOp .lss t x y u) ty (.bool (decide (i < j))) := .of_run fun a w ha _ => by simp only [execOp, hx.eval ha, hy.eval ha]; simp [go_sem]
theorem Ev.leq (hx : Opd F x (.int k i)) (hy : Opd F y (.int k j)) : Ev P n F A (.binOp .leq t x y u) ty (.bool (decide (i ≤ j))) := .of_run fun a w ha _ => by simp only [execOp, hx.eval ha, hy.eval ha]; simp [go_sem]
theorem Ev.gtr (hx : Opd F x (.int k i)) (hy : Opd F y (.int k j)) : Ev P n F A (.binOp .gtr t x y u) ty (.bool (decide (j < i))) := .of_run fun a w ha _ => by simp only [execOp, hx.eval ha, hy.eval ha]; simp [go_sem]
theorem Ev.geq (hx : Opd F x (.int k i)) (hy : Opd F y (.int k j)) : Ev P n F A (.binOp .geq t x y u) ty (.bool (decide (j ≤ i))) := .of_run fun a w ha _ => by simp only [execOp, hx.eval ha, hy.eval ha]; simp [go_sem]
theorem Ev.eql (hx : Opd F x (.int k i)) (hy : Opd F y (.int k j)) : Ev P n F A (.binOp .eql t x y u) ty (.bool (decide (i = j))) := .of_run fun a w ha _ => by
 simp only [execOp, hx.eval ha, hy.eval ha]; simp [go_sem]
 rfl
theorem Ev.neq (hx : Opd F x (.int k i)) (hy : Opd F y (.int k j)) : Ev P n F A (.binOp .neq t x y u) ty (.bool (!decide (i = j))) := .of_run fun a w ha _ => by
 simp only [execOp, hx.eval ha, hy.eval ha]; simp [go_sem]
 rfl
theorem Ev.addW (hx : Opd F x (.int k i)) (hy : Opd F y (.int k j)) : Ev P n F A (.binOp .add t x y u) ty (.int k (k.wrap (i + j))) := .of_run fun a w ha _ => by simp only [execOp, hx.eval ha, hy.eval ha]; simp [go_sem, Op.intArith]
theorem Ev.subW (hx : Opd F x (.int k i)) (hy : Opd F y (.int k j)) : Ev P n F A (.binOp .sub t x y u) ty (.int k (k.wrap (i - j))) := .of_run fun a w ha _ => by simp only [execOp, hx.eval ha, hy.eval ha]; simp [go_sem, Op.intArith]
theorem wrap_ok {i : Int} (h : -9223372036854775808 ≤ i ∧ i ≤ 9223372036854775807) : IntKind.i64.wrap i = i := by
 simp only [IntKind.wrap, IntKind.bits, IntKind.signed]
 simp
 omega
theorem Ev.add (hx : Opd F x (iv i)) (hy : Opd F y (iv j)) (h : -9223372036854775808 ≤ i + j ∧ i + j ≤ 9223372036854775807) : Ev P n F A (.binOp .add t x y u) ty (iv (i + j)) := by
 have := Ev.addW (P := P) (n := n) (A := A) (ty := ty) (t := t) (u := u) hx hy; rwa [wrap_ok h] at this
theorem Ev.sub (hx : Opd F x (iv i)) (hy : Opd F y (iv j)) (h : -9223372036854775808 ≤ i - j ∧ i - j ≤ 9223372036854775807) : Ev P n F A (.binOp .sub t x y u) ty (iv (i - j)) := by
 have := Ev.subW (P := P) (n := n) (A := A) (ty := ty) (t := t) (u := u) hx hy; rwa [wrap_ok h] at this
theorem Ev.rem (hx : Opd F x (.int k i)) (hy : Opd F y (.int k j)) (h : j ≠ 0) : Ev P n F A (.binOp .rem t x y u) ty (.int k (i.tmod j)) := .of_run fun a w ha _ => by simp only [execOp, hx.eval ha, hy.eval ha]; simp [go_sem, Op.intDiv, h]
theorem Ev.shlW {k' : IntKind} (hx : Opd F x (.int k i)) (hy : Opd F y (.int k' j)) (h : 0 ≤ j) : Ev P n F A (.binOp .shl t x y u) ty (.int k (k.wrap (i * 2 ^ (min j.toNat k.bits)))) := .of_run fun a w ha _ => by
 simp only [execOp, hx.eval ha, hy.eval ha]; simp [go_sem, Op.shift, Int.not_lt.2 h]
theorem Ev.shr {k' : IntKind} (hx : Opd F x (.int k i)) (hy : Opd F y (.int k' j)) (h : 0 ≤ j) : Ev P n F A (.binOp .shr t x y u) ty (.int k (i.fdiv (2 ^ (min j.toNat k.bits)))) := .of_run fun a w ha _ => by
 simp only [execOp, hx.eval ha, hy.eval ha]; simp [go_sem, Op.shift, Int.not_lt.2 h]
theorem Ev.convI {k' : IntKind} {s d : TypeId} (hx : Opd F x (.int k i)) (hs : (P.underlying s).isSome = true) (hd : P.underlying d = some (.int k')) : Ev P n F A (.convert s d x) ty (.int k' (k'.wrap i)) := .of_run fun a w ha _ => by
 obtain ⟨d0, hd0⟩ := Option.isSome_iff_exists.mp hs
 simp [execOp, hx.eval ha, convert, run_underlying hd0, run_underlying hd, Conv.intToInt]
end ints
section strings
variable {s r : Str} {t u : TypeId}
theorem Ev.streq (hx : Opd F x (sv s)) (hy : Opd F y (sv r)) : Ev P n F A (.binOp .eql t x y u) ty (.bool (s == r)) := .of_run fun a w ha _ => by simp only [execOp, hx.eval ha, hy.eval ha]; simp [go_sem]
theorem Ev.strne (hx : Opd F x (sv s)) (hy : Opd F y (sv r)) : Ev P n F A (.binOp .neq t x y u) ty (.bool (!(s == r))) := .of_run fun a w ha _ => by simp only [execOp, hx.eval ha, hy.eval ha]; simp [go_sem]
theorem Ev.strcat (hx : Opd F x (sv s)) (hy : Opd F y (sv r)) (h : s.length + r.length ≤ 9223372036854775807) : Ev P n F A (.binOp .add t x y u) ty (sv (s ++ r)) := .of_run fun a w ha _ => by
 have h1 := run_string_add_sum (P := P) w ⟨s.toArray⟩ ⟨r.toArray⟩ (by simpa [ByteArray.size] using h)
 simp only [execOp, hx.eval ha, hy.eval ha, eqGuard_at_string, binOp_string_add, Sem.run_bind, Sem.run_pure, Result.andThen_ok, h1, ByteArray.mk_append_mk]
theorem Ev.lenstr {o : TypeId} (hx : Opd F x (sv s)) (ht : P.underlying o = some .string) : Ev P n F A (.call { callee := .builtin .len, args := #[x], argTypes := #[o] }) ty (iv s.length) := .of_run fun a w ha _ => by
 have h1 := run_len_string (P := P) w o ty ⟨s.toArray⟩ ht
 simp [execOp, resolve, invoke, builtin, hx.eval ha, h1, goInt, ByteArray.size]
theorem Ev.idxstr {k : Nat} {i : Int} {b : UInt8} (hx : Opd F x (sv s)) (hy : Opd F y (iv i)) (ht : P.underlying t = some .string) (hi : i = k) (hb : s[k]? = some b) :
  Ev P n F A (.index t x y) ty (.int .u8 b.toNat) := .of_run fun a w ha _ => by
 subst hi
 have hlt : k < (⟨s.toArray⟩ : ByteArray).size := by simpa [ByteArray.size] using (List.getElem?_eq_some_iff.1 hb).1
 have h1 : (⟨s.toArray⟩ : ByteArray)[k]? = some b := by
  rw [ByteArray.getElem?_lt' _ _ hlt]
  have := (List.getElem?_eq_some_iff.1 hb).2
  simpa [ByteArray.getElem_eq_getElem_data] using this
 simp [execOp, hx.eval ha, hy.eval ha, Instr.index, asIntOf, run_underlying ht, h1]
theorem Ev.idxstr0 {k : Nat} {i : Int} (hx : Opd F x (sv s)) (hy : Opd F y (iv i)) (ht : P.underlying t = some .string) (hi : i = k) (hb : k < s.length) :
  Ev P n F A (.index t x y) ty (.int .u8 (s.getD k 0).toNat) := Ev.idxstr hx hy ht hi (by simp [List.getD_eq_getElem?_getD, List.getElem?_eq_getElem hb])
theorem Ev.extract {vs : List Value} {i : Nat} (hx : Opd F x (.tuple vs.toArray)) (hi : vs[i]? = some v) : Ev P n F A (.extract x i) ty v := .of_run fun a w ha _ => by
 simp [execOp, hx.eval ha, Instr.extract, hi]
end strings
section slices
variable {α : Type} {R : Rp α} {xs : List α} {t : TypeId}
theorem MmR.dat {H : List Ent} {ρ : Ro} {w : World} {d : Dat} (h : MmR c H ρ w) (hd : InD d H) : d.f ρ := dat_ok.1 (h.ents _ hd.mem)
theorem MmR.sl {H : List Ent} {ρ : Ro} {w : World} (h : MmR c H ρ w) (hd : InS v H α R xs) : (J.sl R v xs).f ρ := dat_ok.1 (h.ents _ hd.mem)
theorem Ev.lensl {e : TypeId} [hd : InS v H α R xs] (hx : Opd F x v) (ht : P.underlying t = some (.slice e)) :
  Ev P n F (Mm c H) (.call { callee := .builtin .len, args := #[x], argTypes := #[t] }) ty (iv xs.length) := .of_run fun a w ha hw => by
 obtain ⟨ρ, hm⟩ := hw.out
 obtain ⟨ad, cap, rfl, _⟩ := hm.sl hd
 simp [execOp, resolve, invoke, builtin, hx.eval ha, Builtin.len_, run_underlying ht, goInt]
theorem Ev.idxaddr {e : TypeId} {k : Nat} {i : Int} {kd : IntKind} [hd : InS v H α R xs] (hx : Opd F x v) (hy : Opd F y (.int kd i)) (ht : P.underlying t = some (.slice e)) (hs : (P.info? e).map (·.size) = some R.size)
  (hi : i = k) (hk : k < xs.length) : Ev P n F (Mm c H) (.indexAddr t x y) ty (eptr v R.size k 0) := .of_run fun a w ha hw => by
 obtain ⟨ρ, hm⟩ := hw.out
 obtain ⟨ad, cap, rfl, _, _, _, h5⟩ := hm.sl hd
 rcases h5 with rfl | ⟨b, off, C, e', fr, rfl, h6, h7⟩
 ·simp at hk
 ·obtain ⟨inf, hinf, hsz⟩ := Option.map_eq_some_iff.1 hs
  subst hi
  simp [execOp, hx.eval ha, hy.eval ha, Instr.indexAt, asIntOf, run_underlying ht, sizeOf, typeInfo, hinf, hsz, hk, eptr_slice, Addr.add_lit]
theorem sl_cell {H : List Ent} {ρ : Ro} {w : World} (hm : MmR c H ρ w) (hd : InS v H α R xs) {k off : Nat} {x : α} (hk : xs[k]? = some x) :
  ∃ b o, eptr v R.size k off = .pointer (some ⟨b, o, none⟩) ∧ ∀ j, off + j < R.size → w.cell? ⟨b, o + j, none⟩ = (R.cells x)[off + j]? := by
 obtain ⟨ad, cap, rfl, _, _, _, h5⟩ := hm.sl hd
 rcases h5 with rfl | ⟨b, o, C, e', fr, rfl, h6, h7⟩
 ·simp at hk
 ·refine ⟨b, _, eptr_slice .., fun j hj => ?_⟩
  have hg := rows_get R xs k (off + j) x hk hj
  rw [cell?_of_blk (hm.fits _ _ h6)]
  have hlt : off + j < (R.cells x).length := by rw [R.len]; exact hj
  rw [List.getElem?_eq_getElem hlt] at hg ⊢
  rw [show o + (k * R.size + off) + j = o + (k * R.size + (off + j)) by omega]
  exact h7 _ _ hg
theorem some_getD {β : Type} (d : β) {l : List β} {k : Nat} (h : k < l.length) : l[k]? = some (l.getD k d) := by rw [List.getD_eq_getElem?_getD, List.getElem?_eq_getElem h]; rfl
theorem Ev.ld1 {k off : Nat} {e : α} {d : TypeDesc} {u : Value} [hd : InS v H α R xs] (hx : Opd F x (eptr v R.size k off)) (hk : xs[k]? = some e) (ht : P.underlying t = some d) (hk1 : (match d with | .struct _ | .array _ _ => False | _ => True))
  (hu : (R.cells e)[off]? = some u) : Ev P n F (Mm c H) (.load t x) ty u := .of_run fun a w ha hw => by
 obtain ⟨ρ, hm⟩ := hw.out
 have ho : off < R.size := by have := (List.getElem?_eq_some_iff.1 hu).1; rwa [R.len] at this
 obtain ⟨b, o, h1, h2⟩ := sl_cell hm hd hk
 have h3 := h2 0 (by simpa using ho)
 simp only [Nat.add_zero] at h3
 rw [h1] at hx
 simp [execOp, hx.eval ha, Instr.loadAt, Instr.sureAddr, run_loadVar_one ht hk1 (h3.trans hu)]
theorem Ev.ldA {k : Nat} {e : α} {d : TypeDesc} {L : List Value} [hd : InS v H α R xs] (hx : Opd F x (eptr v R.size k 0)) (hk : xs[k]? = some e) (ht : P.underlying t = some d) (hk1 : (match d with | .struct _ | .array _ _ => True | _ => False))
  (hs : (P.info? t).map (·.size) = some R.size) (hL : R.cells e = L) : Ev P n F (Mm c H) (.load t x) ty (.agg L.toArray) := .of_run fun a w ha hw => by
 obtain ⟨ρ, hm⟩ := hw.out
 obtain ⟨b, o, h1, h2⟩ := sl_cell hm hd hk (off := 0)
 subst hL
 rw [h1] at hx
 have h4 := run_loadVar_agg (P := P) (w := w) (b := b) (off := o) (L := R.cells e) ht hk1 (by rw [hs, R.len]) (fun j u hj => by
  have hlt := (List.getElem?_eq_some_iff.1 hj).1
  rw [R.len] at hlt
  have := h2 j (by omega)
  rw [Nat.zero_add] at this
  rw [this]; exact hj)
 simp [execOp, hx.eval ha, Instr.loadAt, Instr.sureAddr, h4]
def fieldOff (P : Program) (s i : Nat) : Option Nat :=
 match P.underlying s with
 | some (.struct fs) => match fs[i]? with
  | some f => match P.info? f.type with
   | some inf => if inf.size = 0 then none else some f.offset
   | none => none
  | none => none
 | _ => none
theorem run_fieldAt {w : World} {s i o : Nat} {ad : Addr} (h : fieldOff P s i = some o) : (Instr.fieldAt s (.pointer (some ad)) i).run P w = .ok (.pointer (some (ad.add o))) w := by
 unfold fieldOff at h
 split at h
 ·rename_i fs hu
  split at h
  ·rename_i f hf
   split at h
   ·rename_i inf hinf
    split at h
    ·simp at h
    ·rename_i hz
     simp only [Option.some.injEq] at h
     subst h
     simp [Instr.fieldAt, run_underlying hu, hf, Instr.sureAddr, fieldPlace, sizeOf, typeInfo, hinf, hz]
   ·simp at h
  ·simp at h
 ·simp at h
theorem Ev.fldel {k off o i : Nat} {s : TypeId} [hd : InS v H α R xs] (hx : Opd F x (eptr v R.size k off)) (hk : k < xs.length) (ho : fieldOff P s i = some o) : Ev P n F (Mm c H) (.fieldAddr s x i) ty (eptr v R.size k (off + o)) := .of_run fun a w ha hw => by
 obtain ⟨ρ, hm⟩ := hw.out
 obtain ⟨ad, cap, rfl, _, _, _, h5⟩ := hm.sl hd
 rcases h5 with rfl | ⟨b, of, C, e', fr, rfl, h6, h7⟩
 ·simp at hk
 ·rw [eptr_slice] at hx
  simp [execOp, hx.eval ha, run_fieldAt ho, eptr_slice, Addr.add_lit, Nat.add_assoc]
end slices
section blocks
variable {t : TypeId} {b off : Nat} {C : Array Value} {e : TypeId} {fr : Nat × Nat}
theorem Ev.fldb {o i : Nat} {s : TypeId} (hx : Opd F x (.pointer (some ⟨b, off, none⟩))) (ho : fieldOff P s i = some o) : Ev P n F A (.fieldAddr s x i) ty (.pointer (some ⟨b, off + o, none⟩)) := .of_run fun a w ha hw => by
 simp [execOp, hx.eval ha, run_fieldAt ho, Addr.add_lit]
theorem Ev.fldb0 {o i : Nat} {s : TypeId} (hx : Opd F x (.pointer (some ⟨b, 0, none⟩))) (ho : fieldOff P s i = some o) : Ev P n F A (.fieldAddr s x i) ty (.pointer (some ⟨b, o, none⟩)) := by
 have := Ev.fldb (P := P) (n := n) (A := A) (ty := ty) hx ho
 rwa [Nat.zero_add] at this
theorem Ev.ldb {d : TypeDesc} {u : Value} {L : List Value} [hb : InB b H (.cells L.toArray e fr)] (hx : Opd F x (.pointer (some ⟨b, off, none⟩))) (ht : P.underlying t = some d) (hk1 : (match d with | .struct _ | .array _ _ => False | _ => True))
  (hu : L[off]? = some u) : Ev P n F (Mm c H) (.load t x) ty u := .of_run fun a w ha hw => by
 obtain ⟨ρ, hm⟩ := hw.out
 have h1 := blk_ok.1 (hm.ents _ hb.mem)
 have h2 : w.cell? ⟨b, off, none⟩ = some u := by rw [cell?_of_blk h1]; simpa using hu
 simp [execOp, hx.eval ha, Instr.loadAt, Instr.sureAddr, run_loadVar_one ht hk1 h2]
theorem Ev.ldbA {d : TypeDesc} {L : List Value} [hb : InB b H (.cells L.toArray e fr)] (hx : Opd F x (.pointer (some ⟨b, 0, none⟩))) (ht : P.underlying t = some d) (hk1 : (match d with | .struct _ | .array _ _ => True | _ => False))
  (hs : (P.info? t).map (·.size) = some L.length) : Ev P n F (Mm c H) (.load t x) ty (.agg L.toArray) := .of_run fun a w ha hw => by
 obtain ⟨ρ, hm⟩ := hw.out
 have h1 := blk_ok.1 (hm.ents _ hb.mem)
 have h4 := run_loadVar_agg (P := P) (w := w) (b := b) (off := 0) (L := L) ht hk1 hs (fun j u hj => by rw [cell?_of_blk h1]; simpa using hj)
 simp [execOp, hx.eval ha, Instr.loadAt, Instr.sureAddr, h4]
end blocks
def Opds (F : Fr) : List Operand → List Value → Prop
 | [], [] => True
 | x :: xs, v :: vs => Opd F x v ∧ Opds F xs vs
 | _, _ => False
theorem Opds.nil : Opds F [] [] := trivial
theorem Opds.cons {xs : List Operand} {vs : List Value} (h : Opd F x v) (k : Opds F xs vs) : Opds F (x :: xs) (v :: vs) := ⟨h, k⟩
theorem Opds.eval {a : Act} (ha : Has n a F) : ∀ {xs : List Operand} {vs : List Value}, Opds F xs vs → xs.map a.eval = vs
 | [], [], _ => rfl
 | x :: xs, v :: vs, h => by rw [List.map_cons, h.1.eval ha, Opds.eval ha h.2]
theorem Ev.build {t : TypeId} {ps : List (Nat × Operand)} {vs : List Value} (hp : Opds F (ps.map (·.2)) vs) (hr : ∀ w, (Instr.build t ((ps.map (·.1)).zip vs).toArray).run P w = .ok v w) : Ev P n F A (.build t ps.toArray) ty v := .of_run fun a w ha _ => by
 have h1 : ps.map (fun p => (p.1, a.eval p.2)) = (ps.map (·.1)).zip vs := by
  rw [← Opds.eval ha hp]
  clear hp hr
  induction ps with
  | nil => rfl
  | cons p ps ih => simp [ih]
 have h2 : (ps.toArray.map fun (i, x) => (i, a.eval x)) = ((ps.map (·.1)).zip vs).toArray := by
  rw [← h1]; simp
 simp only [execOp, h2, Sem.run_bind, hr, Result.andThen_ok, Sem.run_pure]
theorem callFunc_run {f : FuncId} {args : Array Value} {w : World} {fn : Func} (hf : P.funcs[f]? = some fn) (hb : fn.body.isSome = true) (hn : (fn.name == "runtime.NumGoroutine") = false) : (callFunc f args).run P w = .ok (.enter f args) w := by
 unfold callFunc
 simp [hf]
 cases hbb : fn.body with
 | none => simp [hbb] at hb
 | some cd => simpa using hn
end
end Go.J

/-
  (YtolmidffiegkaaaDoorJ4)
  The laws of operations that turn the world: new variables, stores, slices that are made and appended to; and of calls.
  Conditions: none; everything holds of any program.
-/
namespace Go.J
open Go
theorem MmR.new1 {c : Ctx} {H : List Ent} {ρ : Ro} {w w' : World} {E : Ent} (h : MmR c H ρ w) (hos : w'.os = w.os) (ht : w'.tape = w.tape ∧ w.drawn ≤ w'.drawn) (ho : w'.output = w.output) (hs : w.heap.size ≤ w'.heap.size)
  (hk : ∀ k, k < w.heap.size → w'.heap[k]? = w.heap[k]?) (hE : E.ok ρ w') (hkey : ∀ b, E.key = some b → w.heap.size ≤ b) : MmR c (E :: H) ρ w' := by
 have h' : MmR c ([] ++ H) ρ w := h
 refine MmR.step (H2 := [E]) h' ⟨hos, ⟨ht.1, fun _ => ht.2⟩, ho, hs, fun k hk1 _ => hk k hk1, fun k o hr => ?_, Ro.le_refl _, fun _ _ _ => rfl, ?_, ?_, ?_⟩
 ·rw [hk k (h.rlt hr)]; exact h.fits k o hr
 ·intro E' hE'; simp at hE'; subst hE'; exact hE
 ·intro E' hE' b hb
  simp at hE'; subst hE'
  refine ⟨?_, .inl (hkey b hb)⟩
  cases hr : ρ b with
  | none => rfl
  | some o => have h1 := h.rlt hr; have h2 := hkey b hb; omega
 ·exact List.pairwise_singleton ..
theorem MmR.alter {c : Ctx} {H : List Ent} {ρ : Ro} {w w' : World} {E E' : Ent} (h : MmR c (E :: H) ρ w) (hos : w'.os = w.os) (ht : w'.tape = w.tape ∧ w.drawn ≤ w'.drawn) (ho : w'.output = w.output) (hs : w.heap.size ≤ w'.heap.size)
  (hk : ∀ k, k < w.heap.size → E.key ≠ some k → w'.heap[k]? = w.heap[k]?) (hE : E'.ok ρ w') (hkey : ∀ b, E'.key = some b → E.key = some b ∨ w.heap.size ≤ b) : MmR c (E' :: H) ρ w' := by
 have h' : MmR c ([E] ++ H) ρ w := h
 refine MmR.step (H2 := [E']) h' ⟨hos, ⟨ht.1, fun _ => ht.2⟩, ho, hs, fun k hk1 hk2 => hk k hk1 (fun e => hk2 ⟨E, by simp, e⟩), fun k o hr => ?_, Ro.le_refl _, fun _ _ _ => rfl, ?_, ?_, ?_⟩
 ·rw [hk k (h.rlt hr)]
  ·exact h.fits k o hr
  ·intro e
   have := (h.own E (by simp) k e).1
   rw [hr] at this; cases this
 ·intro E'' hE''; simp at hE''; subst hE''; exact hE
 ·intro E'' hE'' b hb
  simp at hE''; subst hE''
  rcases hkey b hb with h1 | h1
  ·exact ⟨(h.own E (by simp) b h1).1, .inr ⟨E, by simp, h1⟩⟩
  ·refine ⟨?_, .inl h1⟩
   cases hr : ρ b with
   | none => rfl
   | some o => have := h.rlt hr; omega
 ·exact List.pairwise_singleton ..
theorem MmR.alloc {c : Ctx} {H : List Ent} {ρ : Ro} {w : World} (h : MmR c H ρ w) (o : Obj) : MmR c (blk w.heap.size o :: H) ρ (w.alloc o) :=
 h.new1 rfl ⟨rfl, Nat.le_refl _⟩ rfl (by simp) (fun k hk => RowKit.Below.heap_alloc w _ k hk) (blk_ok.2 (heap_alloc_new w o)) (fun b hb => by rw [blk_key] at hb; simp at hb; omega)
class SetL (L : List Value) (off : Nat) (v : Value) (L' : outParam (List Value)) : Prop where
 eq : L.set off v = L'
instance SetL.here (x : Value) (L : List Value) (v : Value) : SetL (x :: L) 0 v (v :: L) := ⟨rfl⟩
instance SetL.there (x : Value) (L : List Value) (v : Value) (k : Nat) (L' : List Value) [h : SetL L k v L'] : SetL (x :: L) (k + 1) v (x :: L') := ⟨by rw [List.set_cons_succ, h.eq]⟩
class InR (v : Value) (H : List Ent) (e : outParam TypeId) (size n : outParam Nat) (cs : outParam (List Value)) : Prop where
 mem : row v e size n cs ∈ H
instance (priority := high) InR.here (v : Value) (e : TypeId) (size n : Nat) (cs : List Value) (H : List Ent) : InR v (row v e size n cs :: H) e size n cs := ⟨List.mem_cons_self ..⟩
instance InR.there (v : Value) (e : TypeId) (size n : Nat) (cs : List Value) (E : Ent) (H : List Ent) [h : InR v H e size n cs] : InR v (E :: H) e size n cs := ⟨List.mem_cons_of_mem _ h.mem⟩
theorem cells_agg (C : Array Value) : (Value.agg C).cells = C := rfl
theorem cells_one {v : Value} (h : v.oneCell' = true) : v.cells = #[v] := by
 cases v <;> first | rfl | simp [Value.oneCell'] at h
section
variable {P : Program} {n : Nat} {F : Fr} {A : World → Prop} {c : Ctx} {H R : List Ent} {ty : TypeId} {x y z : Operand} {v : Value} {Q : Exit → Act → World → Prop} {ops : Array Oper} {rest : List Oper}
 {d : Nat} {pos : String} {after : Array Edge} {t e : TypeId}
theorem St.alloc {Z : Array Value} (hz : (P.info? t).bind (fun i => i.zero.map Value.cells) = some Z) (hd : Nat.ble (d + 1) n = true)
  (h : ∀ b, St n ((d, .pointer (some ⟨b, 0, none⟩)) :: F) (Mm c (blk b (.cells Z t (0, 0)) :: H)) (wpList P ops Q rest)) :
  St n F (Mm c H) (wpList P ops Q ({ dst := some d, op := .alloc t, type := ty, pos := pos, after := after, guard := none } :: rest)) := by
 refine St.do_ (K := fun u H' => ∃ b, u = .pointer (some ⟨b, 0, none⟩) ∧ H' = blk b (.cells Z t (0, 0)) :: H) ?_ hd ?_
 ·intro a w ρ ha hm
  obtain ⟨i, hi, hz'⟩ := Option.bind_eq_some_iff.1 hz
  obtain ⟨zv, hzv, rfl⟩ := Option.map_eq_some_iff.1 hz'
  refine ⟨.value (.pointer (some ⟨w.heap.size, 0, none⟩)), w.alloc (.cells zv.cells t), ρ, _, ?_, ⟨_, .inl rfl, _, rfl, rfl⟩, hm.alloc _⟩
  simp [execOp, Instr.alloc, zeroValue, typeInfo, hi, hzv, newVar, newRow]
 ·rintro _ _ ⟨b, rfl, rfl⟩
  exact h b
theorem St.boxA {L : List Value} (hx : Opd F x (.agg L.toArray)) (hd : Nat.ble (d + 1) n = true)
  (h : ∀ b, St n ((d, .pointer (some ⟨b, 0, none⟩)) :: F) (Mm c (blk b (.cells L.toArray t (0, 0)) :: H)) (wpList P ops Q rest)) :
  St n F (Mm c H) (wpList P ops Q ({ dst := some d, op := .box t x, type := ty, pos := pos, after := after, guard := none } :: rest)) := by
 refine St.do_ (K := fun u H' => ∃ b, u = .pointer (some ⟨b, 0, none⟩) ∧ H' = blk b (.cells L.toArray t (0, 0)) :: H) ?_ hd ?_
 ·intro a w ρ ha hm
  refine ⟨.value (.pointer (some ⟨w.heap.size, 0, none⟩)), w.alloc (.cells L.toArray t), ρ, _, ?_, ⟨_, .inl rfl, _, rfl, rfl⟩, hm.alloc _⟩
  simp [execOp, Instr.box, hx.eval ha, newVar, newRow, Value.cells]
 ·rintro _ _ ⟨b, rfl, rfl⟩
  exact h b
theorem setCell_blk {w : World} {b off : Nat} {C : Array Value} {v : Value} (h : w.heap[b]? = some (.cells C e (0, 0))) : (w.setCell ⟨b, off, none⟩ v).heap[b]? = some (.cells (C.setIfInBounds off v) e (0, 0)) := by
 simp [World.setCell, Array.getElem?_modify, h]
theorem St.store1 {b off : Nat} {L L' : List Value} [tk : TakeB b H (.cells L.toArray e (0, 0)) R] (hx : Opd F x (.pointer (some ⟨b, off, none⟩))) (hy : Opd F y v) [sl : SetL L off v L'] (hs : (P.info? t).map (·.size) = some 1) (h1 : v.oneCell' = true)
  (hoff : Nat.ble (off + 1) L.length = true) (h : St n F (Mm c (blk b (.cells L'.toArray e (0, 0)) :: R)) (wpList P ops Q rest)) :
  St n F (Mm c H) (wpList P ops Q ({ dst := none, op := .store t x y, type := ty, pos := pos, after := after, guard := none } :: rest)) := by
 refine St.do_none (K := fun u H' => H' = blk b (.cells L'.toArray e (0, 0)) :: R) ?_ ?_
 ·intro a w ρ ha hm
  have hm' := hm.perm tk.perm
  have hb := blk_ok.1 (hm'.ents _ (List.mem_cons_self ..))
  have ho := Nat.le_of_ble_eq_true hoff
  have hc : w.cell? ⟨b, off, none⟩ = some L[off] := by rw [cell?_of_blk hb]; simp
  have hf : w.frozen? ⟨b, off, none⟩ = false := by simp [World.frozen?, hb]
  obtain ⟨i, hi, hsz⟩ := Option.map_eq_some_iff.1 hs
  refine ⟨.skip, w.setCell ⟨b, off, none⟩ v, ρ, _, ?_, ⟨_, .inr ⟨rfl, rfl⟩, rfl⟩, ?_⟩
  ·simp [execOp, hx.eval ha, hy.eval ha, Instr.storeAt, Instr.sureAddr, storeVar, sizeOf, typeInfo, hi, hsz, cells_one h1, storeCells, run_store P w _ v _ h1, hc, hf, Addr.add_zero']
  ·refine hm'.alter rfl ⟨rfl, Nat.le_refl _⟩ rfl (by simp) (fun k hk hne => ?_) (blk_ok.2 ?_) (fun b' hb' => by rw [blk_key] at hb' ⊢; exact .inl hb')
   ·rw [blk_key] at hne
    simp only [World.setCell, Array.getElem?_modify]
    rw [if_neg (fun e => hne (by rw [e]))]
   ·rw [setCell_blk hb, ← sl.eq]
    simp
 ·rintro _ _ rfl
  exact h
theorem St.storeA {b : Nat} {L L' : List Value} [tk : TakeB b H (.cells L.toArray t (0, 0)) R] (hx : Opd F x (.pointer (some ⟨b, 0, none⟩))) (hy : Opd F y (.agg L'.toArray)) (hs : (P.info? e).map (·.size) = some L'.length) (hl : L.length = L'.length)
  (h1 : L'.all (·.oneCell') = true) (h : St n F (Mm c (blk b (.cells L'.toArray t (0, 0)) :: R)) (wpList P ops Q rest)) :
  St n F (Mm c H) (wpList P ops Q ({ dst := none, op := .store e x y, type := ty, pos := pos, after := after, guard := none } :: rest)) := by
 refine St.do_none (K := fun u H' => H' = blk b (.cells L'.toArray t (0, 0)) :: R) ?_ ?_
 ·intro a w ρ ha hm
  have hm' := hm.perm tk.perm
  have hb := blk_ok.1 (hm'.ents _ (List.mem_cons_self ..))
  have hr := run_storeVar_row (P := P) w b t e L.toArray L'.toArray hb (by simpa using hs) (by simpa using hl) (by simpa using h1)
  refine ⟨.skip, w.setRow b L'.toArray, ρ, _, ?_, ⟨_, .inr ⟨rfl, rfl⟩, rfl⟩, ?_⟩
  ·simp [execOp, hx.eval ha, hy.eval ha, Instr.storeAt, Instr.sureAddr, hr]
  ·refine hm'.alter rfl ⟨rfl, Nat.le_refl _⟩ rfl (by simp) (fun k hk hne => ?_) (blk_ok.2 ?_) (fun b' hb' => by rw [blk_key] at hb' ⊢; exact .inl hb')
   ·rw [blk_key] at hne
    exact setRow_other w b k _ (fun e => hne (by rw [e]))
   ·exact setRow_heap w b L.toArray L'.toArray t _ hb
 ·rintro _ _ rfl
  exact h
theorem Ev.func {f : FuncId} {cs : List Operand} {vs : List Value} (hc : Opds F cs vs) : Ev P n F A (.makeFunc (.func f) #[] cs.toArray) ty (.func (.func f) #[] vs.toArray) := .of_run fun a w ha _ => by
 have := Opds.eval ha hc
 simp [execOp, Instr.makeFunc, this]
theorem fill_seq (size : Nat) : ∀ (vs : List Value) (k : Nat) (pre post : List Value), pre.length = k * size → (∀ u ∈ vs, u.cells.size = size) → post.length = vs.length * size →
  Instr.fill (fun i => some (i * size, size)) (pre ++ post).toArray ((vs.zipIdx k).map fun p => (p.2, p.1)) = some (pre ++ vs.flatMap fun u => u.cells.toList).toArray
 | [], k, pre, post, _, _, hp => by
  have : post = [] := List.eq_nil_of_length_eq_zero (by simpa using hp)
  subst this
  simp [Instr.fill]
 | u :: vs, k, pre, post, hpre, hu, hpost => by
  have hu1 := hu u (by simp)
  have hlen : post.length = size + vs.length * size := by rw [hpost, List.length_cons, Nat.add_mul]; omega
  have hset : ∀ (l : List Value) (m : Nat) (Z : List Value), m + l.length ≤ Z.length → ((l.zipIdx m).foldl (fun cs p => cs.setIfInBounds (k * size + p.2) p.1) (pre ++ Z).toArray) = (pre ++ (Z.take m ++ l ++ Z.drop (m + l.length))).toArray := by
   intro l
   induction l with
   | nil => intro m Z _; simp
   | cons y l ih =>
    intro m Z hZ
    simp only [List.length_cons] at hZ
    simp only [List.zipIdx_cons, List.foldl_cons]
    have e1 : (pre ++ Z).toArray.setIfInBounds (k * size + m) y = (pre ++ Z.set m y).toArray := by
     simp only [List.setIfInBounds_toArray]
     rw [List.set_append_right _ _ (by omega)]
     congr 2
     rw [show k * size + m - pre.length = m by omega]
    rw [e1, ih (m + 1) (Z.set m y) (by simp; omega)]
    congr 2
    simp only [List.length_cons]
    rw [List.drop_set_of_lt (by omega), show m + 1 + l.length = m + (l.length + 1) by omega]
    rw [List.take_set]
    have : (Z.take (m + 1)).set m y = Z.take m ++ [y] := by
     rw [List.take_succ_eq_append_getElem (by omega), List.set_append_right _ _ (by simp [Nat.min_le_left])]
     simp [show min m Z.length = m by omega]
    rw [this]
    simp
  simp only [List.zipIdx_cons, List.map_cons, Instr.fill]
  have hb : ¬ (u.cells.size ≠ size ∨ (pre ++ post).toArray.size < k * size + u.cells.size) := by simp; omega
  have hb' : ((decide (u.cells.size ≠ size)) || decide (k * size + u.cells.size > (pre ++ post).toArray.size)) = false := by
   simp; omega
  simp only [hb', Bool.false_eq_true, if_false]
  have hf := hset u.cells.toList 0 post (by simp; omega)
  have hz : u.cells.zipIdx.foldl (fun cs (c, j) => cs.setIfInBounds (k * size + j) c) (pre ++ post).toArray = (pre ++ (u.cells.toList ++ post.drop size)).toArray := by
   rw [← Array.foldl_toList]
   simp only [Array.toList_zipIdx]
   rw [hf]
   simp [hu1]
  rw [hz, ← List.append_assoc]
  have ih := fill_seq size vs (k + 1) (pre ++ u.cells.toList) (post.drop size) (by simp [hu1, hpre, Nat.add_mul]) (fun x hx => hu x (by simp [hx])) (by simp; omega)
  rw [ih]
  simp
theorem St.buildSl {size : Nat} {xs : List Operand} {vs : List Value} {ps : List (Nat × Operand)} {zv : Value} (hp : ps = xs.zipIdx.map fun p => (p.2, p.1)) (hx : Opds F xs vs) (ht : P.underlying t = some (.slice e)) (hs : (P.info? e).map (·.size) = some size)
  (hz : (P.info? e).bind (·.zero) = some zv) (hpos : Nat.ble 1 size = true) (hlen : Nat.ble (vs.length * size) 16777216 = true) (hcs : ∀ u ∈ vs, u.cells.size = size) (hd : Nat.ble (d + 1) n = true)
  {m : Nat} (hm : m = vs.length)
  (h : ∀ b, St n ((d, .slice (some ⟨b, 0, none⟩) m m) :: F) (Mm c (row (.slice (some ⟨b, 0, none⟩) m m) e size m (vs.flatMap fun u => u.cells.toList) :: H)) (wpList P ops Q rest)) :
  St n F (Mm c H) (wpList P ops Q ({ dst := some d, op := .buildSlice t m ps.toArray, type := ty, pos := pos, after := after, guard := none } :: rest)) := by
 subst hm
 refine St.do_ (K := fun u H' => ∃ b, u = .slice (some ⟨b, 0, none⟩) vs.length vs.length ∧ H' = row (.slice (some ⟨b, 0, none⟩) vs.length vs.length) e size vs.length (vs.flatMap fun u => u.cells.toList) :: H) ?_ hd ?_
 ·intro a w ρ ha hmm
  have hle := Nat.le_of_ble_eq_true hlen
  have hxv := Opds.eval ha hx
  have hxl : xs.length = vs.length := by rw [← hxv, List.length_map]
  obtain ⟨i, hi, hsz⟩ := Option.map_eq_some_iff.1 hs
  have hzi : i.zero = some zv := by rw [hi] at hz; simpa using hz
  have hflat : (vs.flatMap fun u => u.cells.toList).length = vs.length * size := by
   clear hx hxv hxl hle hlen h
   induction vs with
   | nil => simp
   | cons u vs ih =>
    simp only [List.flatMap_cons, List.length_append, List.length_cons, Nat.add_mul]
    rw [ih (fun x hx => hcs x (by simp [hx]))]
    have := hcs u (by simp)
    simp [this]; omega
  have hparts : (ps.toArray.map fun (i, x) => (i, a.eval x)).toList = (vs.zipIdx).map fun p => (p.2, p.1) := by
   subst hp
   rw [← hxv]
   simp [List.zipIdx_map, Function.comp_def]
  refine ⟨.value (.slice (some ⟨w.heap.size, 0, none⟩) vs.length vs.length), w.alloc (.cells (vs.flatMap fun u => u.cells.toList).toArray e), ρ, _, ?_, ⟨_, .inl rfl, _, rfl, rfl⟩, ?_⟩
  ·by_cases h0 : vs.length * size = 0
   ·have hv0 : vs = [] := by
     rcases Nat.mul_eq_zero.1 h0 with h1 | h1
     ·exact List.eq_nil_of_length_eq_zero h1
     ·have := Nat.le_of_ble_eq_true hpos; omega
    rw [hv0] at hparts ⊢
    simp only [execOp, Instr.buildSlice, Sem.run_bind, run_underlying ht, Result.andThen_ok, sizeOf, typeInfo, Sem.run_pure, hparts, run_program, hi, hsz]
    simp [Instr.fill, newRow, Array.range_zero']
   ·obtain ⟨z, hzz⟩ : ∃ z : List Value, ((Array.range (vs.length * size)).map (zv.cells[· % zv.cells.size]!)) = z.toArray := ⟨_, (Array.toArray_toList).symm⟩
    have hzl : z.length = vs.length * size := by have := congrArg Array.size hzz; simpa using this.symm
    have hf := fill_seq size vs 0 [] z (by simp) hcs hzl
    simp only [List.nil_append] at hf
    have hgt : ¬ vs.length * size > 2 ^ 24 := by simp; omega
    simp only [execOp, Instr.buildSlice, Sem.run_bind, run_underlying ht, Result.andThen_ok, sizeOf, typeInfo, Sem.run_pure, hparts, run_program, hi, hsz, zeroValue, hzi, hgt, h0, if_false, hzz, Sem.run_ite]
    simp [hf, newRow]
  ·refine hmm.new1 rfl ⟨rfl, Nat.le_refl _⟩ rfl (by simp) (fun k hk => RowKit.Below.heap_alloc w _ k hk) (row_ok.2 ⟨hflat, .inr ⟨w.heap.size, vs.length, _, rfl, Nat.zero_le _, heap_alloc_new w _, Nat.le_refl _, ?_, ?_, ?_⟩⟩) ?_
   ·have : vs.length ≤ vs.length * size := Nat.le_mul_of_pos_right _ (Nat.le_of_ble_eq_true hpos)
    unfold maxLen; omega
   ·rw [List.size_toArray, hflat]
   ·rw [← hflat, List.take_length]
   ·intro b hb; rw [row_key] at hb; simp [Value.ownBlock] at hb; omega
 ·rintro _ _ ⟨b, rfl, rfl⟩
  exact h b
def Callable (P : Program) (f : FuncId) : Prop := ∃ fn, P.funcs[f]? = some fn ∧ fn.body.isSome = true ∧ (fn.name == "runtime.NumGoroutine") = false
theorem Callable.run {f : FuncId} (h : Callable P f) {args : Array Value} {w : World} : (callFunc f args).run P w = .ok (.enter f args) w :=
 let ⟨_, h1, h2, h3⟩ := h; callFunc_run h1 h2 h3
theorem Mm.callG {dr : Prop} {f : FuncId} {args : Array Value} {pre R : List Ent} {post : Value → List Ent → Prop} (hc : FnG dr P f args pre post) (hdr : c.dr → dr) {w : World} (hm : Mm c (pre ++ R) w) :
  Calls P f args w fun e w' => ∃ v H', e = .returned v ∧ post v H' ∧ Mm c (H' ++ R) w' := by
 obtain ⟨ρ, hm⟩ := hm.out
 refine (hc w ρ hm.start).mono ?_
 rintro e w' ⟨v, H', he, hp, hm'⟩
 obtain ⟨ρ', hm'⟩ := hm'.out
 exact ⟨v, H', he, hp, Mm.mk (hm.step (hm'.dr hdr))⟩
theorem Mm.call {f : FuncId} {args : Array Value} {pre R : List Ent} {post : Value → List Ent → Prop} (hc : FnH P f args pre post) {w : World} (hm : Mm c (pre ++ R) w) :
  Calls P f args w fun e w' => ∃ v H', e = .returned v ∧ post v H' ∧ Mm c (H' ++ R) w' := Mm.callG hc.gen (fun _ => trivial) hm
theorem Mm.withDats {ds : List Dat} [hd : InDs ds H] {w : World} (hm : Mm c H w) : Mm c (ds.map dat ++ H) w :=
 let ⟨_, k⟩ := hm.out; Mm.mk (k.dats ds fun d h => dat_ok.1 (k.ents _ (hd.mem d h)))
theorem exec_call {f : FuncId} {xs : List Operand} {ats : Array TypeId} {vs caps : List Value} (hcb : Callable P f) (hx : Opds F (x :: xs) (.func (.func f) #[] caps.toArray :: vs)) {a : Act} (ha : Has n a F) (w : World) :
  (execOp a.eval (bare (.call { callee := .value x, args := xs.toArray, argTypes := ats }) ty)).run P w = .ok (.enter f (vs ++ caps).toArray) w := by
 have h1 := hx.1.eval ha
 have h2 := Opds.eval ha hx.2
 simp only [execOp, resolve, h1, Deferred.ofValue, Sem.run_bind, Sem.run_pure, Result.andThen_ok, invoke]
 have e : (#[] ++ xs.toArray.map a.eval ++ caps.toArray) = (vs ++ caps).toArray := by simp [h2]
 rw [e]
 exact hcb.run
theorem Ev.call {f : FuncId} {xs : List Operand} {ats : Array TypeId} {vs : List Value} {ds : List Dat} (hc : FnV P f vs.toArray ds v) (hcb : Callable P f) (hx : Opds F xs vs) [hd : InDs ds H] :
  Ev P n F (Mm c H) (.call { callee := .value (.func f), args := xs.toArray, argTypes := ats }) ty v := by
 intro a w ha hw
 rw [exec_call (caps := []) hcb (Opds.cons (Opd.mk rfl) hx) ha w]
 simp only [List.append_nil, Oper.quietUpon, true_and]
 refine (Mm.call hc hw.withDats).mono ?_
 rintro e w' ⟨u, H', rfl, rfl, hm⟩
 refine ⟨rfl, ?_⟩
 obtain ⟨ρ, hm⟩ := hm.out
 exact Mm.mk ((hm.perm List.perm_append_comm).left)
theorem Ev.callW {f : FuncId} {xs : List Operand} {ats : Array TypeId} {vs : List Value} {ds : List Dat} (hdr : ¬ c.dr) (hc : FnVw P f vs.toArray ds v) (hcb : Callable P f) (hx : Opds F xs vs) [hd : InDs ds H] :
  Ev P n F (Mm c H) (.call { callee := .value (.func f), args := xs.toArray, argTypes := ats }) ty v := by
 intro a w ha hw
 rw [exec_call (caps := []) hcb (Opds.cons (Opd.mk rfl) hx) ha w]
 simp only [List.append_nil, Oper.quietUpon, true_and]
 refine (Mm.callG hc (fun h => absurd h hdr) hw.withDats).mono ?_
 rintro e w' ⟨u, H', rfl, rfl, hm⟩
 refine ⟨rfl, ?_⟩
 obtain ⟨ρ, hm⟩ := hm.out
 exact Mm.mk ((hm.perm List.perm_append_comm).left)
theorem Ev.callc {f : FuncId} {xs : List Operand} {ats : Array TypeId} {vs caps : List Value} {ds : List Dat} (hc : FnV P f (vs ++ caps).toArray ds v) (hcb : Callable P f) (hf : Opd F x (.func (.func f) #[] caps.toArray)) (hx : Opds F xs vs) [hd : InDs ds H] :
  Ev P n F (Mm c H) (.call { callee := .value x, args := xs.toArray, argTypes := ats }) ty v := by
 intro a w ha hw
 rw [exec_call hcb (Opds.cons hf hx) ha w]
 simp only [Oper.quietUpon, true_and]
 refine (Mm.call hc hw.withDats).mono ?_
 rintro e w' ⟨u, H', rfl, rfl, hm⟩
 refine ⟨rfl, ?_⟩
 obtain ⟨ρ, hm⟩ := hm.out
 exact Mm.mk ((hm.perm List.perm_append_comm).left)
theorem exec_call_wp {f : FuncId} {xs : List Operand} {ats : Array TypeId} {vs caps : List Value} (hcb : Callable P f) (hx : Opds F (x :: xs) (.func (.func f) #[] caps.toArray :: vs)) {a : Act} (ha : Has n a F) (w : World) {K : Act → World → Prop}
  {dd : Option Tmp} {g : Option (Nat × Bool)}
  (hk : Calls P f (vs ++ caps).toArray w fun e w' => ∃ v, e = .returned v ∧ K (a.put dd v) w') :
  ({ dst := dd, op := .call { callee := .value x, args := xs.toArray, argTypes := ats }, type := ty, pos := pos, after := after, guard := g } : Oper).wp P a w K Q := by
 unfold Oper.wp Oper.upon
 rw [execOp_bare, exec_call hcb hx ha w]
 exact hk.mono fun e w' ⟨v, he, h⟩ => by subst he; exact h
theorem St.calld {f : FuncId} {xs : List Operand} {ats : Array TypeId} {vs : List Value} {ds : List Dat} {post : Value → List Ent → Prop} (hc : FnH P f vs.toArray (ds.map dat) post) (hcb : Callable P f) (hx : Opds F xs vs) (hd : Nat.ble (d + 1) n = true) [hds : InDs ds H]
  (h : ∀ v H', post v H' → St n ((d, v) :: F) (Mm c (H' ++ H)) (wpList P ops Q rest)) :
  St n F (Mm c H) (wpList P ops Q ({ dst := some d, op := .call { callee := .value (.func f), args := xs.toArray, argTypes := ats }, type := ty, pos := pos, after := after, guard := none } :: rest)) := by
 intro a w ha hw
 refine wpList_wp rfl (exec_call_wp (caps := []) hcb (Opds.cons (Opd.mk rfl) hx) ha w ?_)
 simp only [List.append_nil]
 refine (Mm.call hc (hw.withDats (ds := ds))).mono ?_
 rintro e w' ⟨u, H', rfl, hp, hm⟩
 exact ⟨u, rfl, h u H' hp _ w' (ha.put (Nat.le_of_ble_eq_true hd) u) hm⟩
theorem St.calldW {f : FuncId} {xs : List Operand} {ats : Array TypeId} {vs : List Value} {ds : List Dat} {post : Value → List Ent → Prop} (hdr : ¬ c.dr) (hc : FnW P f vs.toArray (ds.map dat) post) (hcb : Callable P f) (hx : Opds F xs vs) (hd : Nat.ble (d + 1) n = true) [hds : InDs ds H]
  (h : ∀ v H', post v H' → St n ((d, v) :: F) (Mm c (H' ++ H)) (wpList P ops Q rest)) :
  St n F (Mm c H) (wpList P ops Q ({ dst := some d, op := .call { callee := .value (.func f), args := xs.toArray, argTypes := ats }, type := ty, pos := pos, after := after, guard := none } :: rest)) := by
 intro a w ha hw
 refine wpList_wp rfl (exec_call_wp (caps := []) hcb (Opds.cons (Opd.mk rfl) hx) ha w ?_)
 simp only [List.append_nil]
 refine (Mm.callG hc (fun h => absurd h hdr) (hw.withDats (ds := ds))).mono ?_
 rintro e w' ⟨u, H', rfl, hp, hm⟩
 exact ⟨u, rfl, h u H' hp _ w' (ha.put (Nat.le_of_ble_eq_true hd) u) hm⟩
theorem St.callc {f : FuncId} {xs : List Operand} {ats : Array TypeId} {vs caps : List Value} {pre R : List Ent} {post : Value → List Ent → Prop} (hc : FnH P f (vs ++ caps).toArray pre post) (hcb : Callable P f) (hf : Opd F x (.func (.func f) #[] caps.toArray)) (hx : Opds F xs vs) (hd : Nat.ble (d + 1) n = true) [tk : TakeL pre H R]
  (h : ∀ v H', post v H' → St n ((d, v) :: F) (Mm c (H' ++ R)) (wpList P ops Q rest)) :
  St n F (Mm c H) (wpList P ops Q ({ dst := some d, op := .call { callee := .value x, args := xs.toArray, argTypes := ats }, type := ty, pos := pos, after := after, guard := none } :: rest)) := by
 intro a w ha hw
 refine wpList_wp rfl (exec_call_wp hcb (Opds.cons hf hx) ha w ?_)
 refine (Mm.call hc (hw.take (L := pre))).mono ?_
 rintro e w' ⟨u, H', rfl, hp, hm⟩
 exact ⟨u, rfl, h u H' hp _ w' (ha.put (Nat.le_of_ble_eq_true hd) u) hm⟩
def placesRun (P : Program) (t : TypeId) (w : World) : Result (Array (Nat × Nat)) :=
 match P.underlying t with
 | some (.struct fs) => (fs.mapM fun f => (do pure (f.offset, ← sizeOf f.type) : Sem (Nat × Nat))).run P w
 | _ => .halt (.stuck "") w
theorem run_buildS {Z C : Array Value} {pl : Array (Nat × Nat)} {parts : List (Nat × Value)} {w : World} (hz : (P.info? t).bind (fun i => i.zero.map Value.cells) = some Z) (hp : placesRun P t w = .ok pl w) (hf : Instr.fill (pl[·]?) Z parts = some C) :
  (Instr.build t parts.toArray).run P w = .ok (.agg C) w := by
 obtain ⟨i, hi, hz'⟩ := Option.bind_eq_some_iff.1 hz
 obtain ⟨zv, hzv, rfl⟩ := Option.map_eq_some_iff.1 hz'
 unfold placesRun at hp
 split at hp
 ·rename_i fs hu
  simp only [Instr.build, zeroValue, typeInfo, Sem.run_bind, run_program, Result.andThen_ok, hi, hzv, Sem.run_pure, run_underlying hu, hp, hf]
 ·cases hp
end
end Go.J

/-
  (YtolmidffiegkaaaDoorJ5)
  Loops and joins that keep what the frame knows; slices that the call makes, appends to, reads, writes.
  Conditions: none; everything holds of any program.
-/
namespace Go.J
open Go
def Keep : Fr → Fr → Prop
  | F, F0 => Sub F0 F
theorem Keep.nil {F : Fr} : Keep F [] := trivial
theorem Keep.cons {F F0 : Fr} (k : Nat) {v : Value} (h : look F k = some v) (h' : Keep F F0) : Keep F ((k, v) :: F0) := ⟨h, h'⟩
section
variable {P : Program} {n : Nat} {F F0 : Fr} {A : World → Prop} {c : Ctx} {H R : List Ent} {ty : TypeId} {x y z : Operand} {v : Value} {Q : Exit → Act → World → Prop} {ops : Array Oper} {rest : List Oper}
  {d : Nat} {pos : String} {after : Array Edge} {t e : TypeId}
def Again {ι : Type} (n : Nat) (G : ι → Fr → Fr) (F0 : Fr) (φ : ι → Prop) (μ : ι → Nat) (c : Ctx) (Hf : ι → List Ent) (k : Nat) (a : Act) (w : World) : Prop :=
  ∃ y, μ y < k ∧ Has n a (G y F0) ∧ φ y ∧ Mm c (Hf y) w
def Met {ι : Type} (n : Nat) (G : ι → Fr → Fr) (F0 : Fr) (φ : ι → Prop) (c : Ctx) (Hf : ι → List Ent) (a : Act) (w : World) : Prop :=
  ∃ y, Has n a (G y F0) ∧ φ y ∧ Mm c (Hf y) w
theorem St.loopH {ι : Type} {body : Code} (G : ι → Fr → Fr) (Hf : ι → List Ent) (φ : ι → Prop) (μ : ι → Nat) (x₀ : ι) (_hk : Keep F F0) (h0 : φ x₀) (hF : Sub (G x₀ F0) F) (hH : ∀ w, Mm c H w → Mm c (Hf x₀) w)
    (round : ∀ x, φ x → St n (G x F0) (Mm c (Hf x)) (body.wp P (Exit.then (Again n G F0 φ μ c Hf (μ x)) Q))) :
    St n F (Mm c H) ((Code.loop body).wp P Q) := by
  refine St.loop (fun x => G x F0) (fun x w => φ x ∧ Mm c (Hf x) w) μ x₀ hF (fun w hw => ⟨h0, hH w hw⟩) fun x => ?_
  exact St.and fun hx => round x hx
theorem St.againH {ι : Type} {G : ι → Fr → Fr} {Hf : ι → List Ent} {φ : ι → Prop} {μ : ι → Nat} {k : Nat} (y : ι) (hφ : φ y) (hm : μ y < k) (hF : Sub (G y F0) F) (hA : ∀ w, Mm c H w → Mm c (Hf y) w) :
    St n F (Mm c H) (Again n G F0 φ μ c Hf k) :=
  fun _ w ha hw => ⟨y, hm, ha.sub hF, hφ, hA w hw⟩
theorem St.loopS {ι : Type} {body : Code} (G : ι → Fr → Fr) (φ : ι → Prop) (μ : ι → Nat) (x₀ : ι) (hk : Keep F F0) (h0 : φ x₀) (hF : Sub (G x₀ F0) F)
    (round : ∀ x, φ x → St n (G x F0) (Mm c H) (body.wp P (Exit.then (Again n G F0 φ μ c (fun _ => H) (μ x)) Q))) :
    St n F (Mm c H) ((Code.loop body).wp P Q) := St.loopH G (fun _ => H) φ μ x₀ hk h0 hF (fun _ hw => hw) round
theorem St.againS {ι : Type} {G : ι → Fr → Fr} {φ : ι → Prop} {μ : ι → Nat} {k : Nat} {H' : List Ent} (y : ι) (hφ : φ y) (hm : μ y < k) (hF : Sub (G y F0) F) (hA : ∀ w, Mm c H w → Mm c H' w) :
    St n F (Mm c H) (Again n G F0 φ μ c (fun _ => H') k) := St.againH y hφ hm hF hA
def Again2 {ι κ : Type} (n : Nat) (G : ι → κ → Fr → Fr) (F0 : Fr) (φ : ι → κ → Prop) (μ : ι → κ → Nat) (c : Ctx) (Hf : ι → κ → List Ent) (k : Nat) (a : Act) (w : World) : Prop :=
  ∃ y z, μ y z < k ∧ Has n a (G y z F0) ∧ φ y z ∧ Mm c (Hf y z) w
theorem St.loopH2 {ι κ : Type} {body : Code} (G : ι → κ → Fr → Fr) (Hf : ι → κ → List Ent) (φ : ι → κ → Prop) (μ : ι → κ → Nat) (x₀ : ι) (z₀ : κ) (_hk : Keep F F0) (h0 : φ x₀ z₀) (hF : Sub (G x₀ z₀ F0) F) (hH : ∀ w, Mm c H w → Mm c (Hf x₀ z₀) w)
    (round : ∀ x z, φ x z → St n (G x z F0) (Mm c (Hf x z)) (body.wp P (Exit.then (Again2 n G F0 φ μ c Hf (μ x z)) Q))) :
    St n F (Mm c H) ((Code.loop body).wp P Q) := by
  refine St.loop (ι := ι × κ) (fun x => G x.1 x.2 F0) (fun x w => φ x.1 x.2 ∧ Mm c (Hf x.1 x.2) w) (fun x => μ x.1 x.2) (x₀, z₀) hF (fun w hw => ⟨h0, hH w hw⟩) fun x => ?_
  refine St.and fun hx => fun a w ha hw => wp_mono (round x.1 x.2 hx a w ha hw) ?_
  intro ex a' w' hq
  cases ex with
  | normal => obtain ⟨y, z, h1, h2, h3, h4⟩ := hq; exact ⟨(y, z), h1, h2, h3, h4⟩
  | exit id => exact hq
  | goto l => exact hq
  | ret => exact hq
  | panic ch => exact hq
  | outgrown => exact hq
theorem St.againH2 {ι κ : Type} {G : ι → κ → Fr → Fr} {Hf : ι → κ → List Ent} {φ : ι → κ → Prop} {μ : ι → κ → Nat} {k : Nat} (y : ι) (z : κ) (hφ : φ y z) (hm : μ y z < k) (hF : Sub (G y z F0) F) (hA : ∀ w, Mm c H w → Mm c (Hf y z) w) :
    St n F (Mm c H) (Again2 n G F0 φ μ c Hf k) :=
  fun _ w ha hw => ⟨y, z, hm, ha.sub hF, hφ, hA w hw⟩
theorem St.join {ι : Type} {p q : Code} (G : ι → Fr → Fr) (Hf : ι → List Ent) (φ : ι → Prop) (_hk : Keep F F0)
    (h1 : St n F (Mm c H) (p.wp P (Exit.then (Met n G F0 φ c Hf) Q))) (h2 : ∀ y, φ y → St n (G y F0) (Mm c (Hf y)) (q.wp P Q)) :
    St n F (Mm c H) ((Code.seq p q).wp P Q) := by
  intro a w ha hw
  refine wp_seq (wp_mono (h1 a w ha hw) ?_)
  intro ex a' w' hq
  cases ex with
  | normal => obtain ⟨y, h3, h4, h5⟩ := hq; exact h2 y h4 a' w' h3 h5
  | exit id => exact hq
  | goto l => exact hq
  | ret => exact hq
  | panic ch => exact hq
  | outgrown => exact hq
theorem St.met {ι : Type} {G : ι → Fr → Fr} {Hf : ι → List Ent} {φ : ι → Prop} (y : ι) (hφ : φ y) (hF : Sub (G y F0) F) (hA : ∀ w, Mm c H w → Mm c (Hf y) w) :
    St n F (Mm c H) (Met n G F0 φ c Hf) :=
  fun _ w ha hw => ⟨y, ha.sub hF, hφ, hA w hw⟩
theorem St.wf {α : Type} {Rr : Rp α} {xs : List α} {T : Act → World → Prop} (v : Value) [hd : InS v H α Rr xs] (h : (∀ x ∈ xs, Rr.wf x) → xs.length ≤ 9223372036854775807 → St n F (Mm c H) T) : St n F (Mm c H) T := by
  intro a w ha hw
  obtain ⟨ρ, hm⟩ := hw.out
  obtain ⟨ad, cap, _, h2, h3, h4, _⟩ := hm.sl hd
  exact h h4 (by simp only [maxLen] at h3; omega) a w ha hw
theorem St.nilrow {T : Act → World → Prop} (e : TypeId) (size : Nat) (h : St n F (Mm c (row (.slice none 0 0) e size 0 [] :: H)) T) : St n F (Mm c H) T := by
  refine h.weak fun w hw => ?_
  obtain ⟨ρ, hm⟩ := hw.out
  exact Mm.mk (hm.new1 rfl ⟨rfl, Nat.le_refl _⟩ rfl (Nat.le_refl _) (fun _ _ => rfl) (row_ok.2 (World.ownsRow_nil _ _ _ _)) (fun b hb => by rw [row_key] at hb; simp [Value.ownBlock] at hb))
theorem run_equalIn_bool (k : Nat) {p q : Bool} {w : World} (ht : P.underlying t = some .bool) : (Op.equalIn (k + 1) t (.bool p) (.bool q)).run P w = .ok (p == q) w := by
  simp only [Op.equalIn, Sem.run_bind, run_underlying ht, Result.andThen_ok, Sem.run_pure]
theorem run_equal_bool {p q : Bool} {w : World} (ht : P.underlying t = some .bool) : (Op.equal t (.bool p) (.bool q)).run P w = .ok (p == q) w := by
  have := run_equalIn_bool (P := P) (w := w) 9999 (p := p) (q := q) ht
  unfold Op.equal Op.maxDepth
  exact this
theorem Ev.booleql {p q : Bool} {u : TypeId} (hx : Opd F x (.bool p)) (hy : Opd F y (.bool q)) (ht : P.underlying t = some .bool) : Ev P n F A (.binOp .eql t x y u) ty (.bool (p == q)) := .of_run fun a w ha _ => by
  simp only [execOp, hx.eval ha, hy.eval ha, eqGuard_at_bool, binOp, Sem.run_bind, Sem.run_pure, Result.andThen_ok, run_equal_bool ht]
theorem Ev.boolneq {p q : Bool} {u : TypeId} (hx : Opd F x (.bool p)) (hy : Opd F y (.bool q)) (ht : P.underlying t = some .bool) : Ev P n F A (.binOp .neq t x y u) ty (.bool (!(p == q))) := .of_run fun a w ha _ => by
  simp only [execOp, hx.eval ha, hy.eval ha, eqGuard_at_bool, binOp, Sem.run_bind, Sem.run_pure, Result.andThen_ok, run_equal_bool ht]
section rows
variable {size m k : Nat} {cs : List Value}
theorem MmR.row {H : List Ent} {ρ : Ro} {w : World} (h : MmR c H ρ w) (hr : InR v H e size m cs) : w.ownsRow 0 e size v m cs := row_ok.1 (h.ents _ hr.mem)
theorem Ev.lenrow {e' : TypeId} [hr : InR v H e size m cs] (hx : Opd F x v) (ht : P.underlying t = some (.slice e')) :
    Ev P n F (Mm c H) (.call { callee := .builtin .len, args := #[x], argTypes := #[t] }) ty (iv m) := .of_run fun a w ha hw => by
  obtain ⟨ρ, hm⟩ := hw.out
  rcases (hm.row hr).2 with ⟨rfl, rfl⟩ | ⟨g, cap, cur, rfl, _⟩
  · simp [execOp, resolve, invoke, builtin, hx.eval ha, Builtin.len_, run_underlying ht, goInt]
  · simp [execOp, resolve, invoke, builtin, hx.eval ha, Builtin.len_, run_underlying ht, goInt]
theorem Ev.idxaddrrow {i : Int} {kd : IntKind} [hr : InR v H e size m cs] (hx : Opd F x v) (hy : Opd F y (.int kd i)) (ht : P.underlying t = some (.slice e)) (hs : (P.info? e).map (·.size) = some size)
    (hi : i = k) (hk : k < m) : Ev P n F (Mm c H) (.indexAddr t x y) ty (eptr v size k 0) := .of_run fun a w ha hw => by
  obtain ⟨ρ, hm⟩ := hw.out
  rcases (hm.row hr).2 with ⟨rfl, rfl⟩ | ⟨g, cap, cur, rfl, _⟩
  · omega
  · obtain ⟨inf, hinf, hsz⟩ := Option.map_eq_some_iff.1 hs
    subst hi
    simp [execOp, hx.eval ha, hy.eval ha, Instr.indexAt, asIntOf, run_underlying ht, sizeOf, typeInfo, hinf, hsz, hk, eptr_slice, Addr.add_lit]
theorem row_cell {w : World} (h : w.ownsRow 0 e size v m cs) {k off : Nat} {u : Value} (hk : k < m) (hu : cs[k * size + off]? = some u) :
    ∃ b, eptr v size k off = .pointer (some ⟨b, k * size + off, none⟩) ∧ w.cell? ⟨b, k * size + off, none⟩ = some u ∧ v.ownBlock = some b ∧ w.frozen? ⟨b, k * size + off, none⟩ = false := by
  obtain ⟨hl, h2⟩ := h
  rcases h2 with ⟨rfl, rfl⟩ | ⟨g, cap, cur, rfl, _, hg, hc1, hc2, hcs, htk⟩
  · omega
  · refine ⟨g, by rw [eptr_slice]; simp, ?_, rfl, by simp [World.frozen?, hg]⟩
    rw [cell?_of_blk hg]
    rw [← htk] at hu
    have hlt := (List.getElem?_eq_some_iff.1 hu).1
    rw [List.getElem?_take] at hu
    split at hu
    · simpa using hu
    · simp at hu
theorem Ev.ldrow {off : Nat} {dd : TypeDesc} {u : Value} [hr : InR v H e size m cs] (hx : Opd F x (eptr v size k off)) (ht : P.underlying t = some dd) (hk1 : (match dd with | .struct _ | .array _ _ => False | _ => True))
    (hk : k < m) (hu : cs[k * size + off]? = some u) : Ev P n F (Mm c H) (.load t x) ty u := .of_run fun a w ha hw => by
  obtain ⟨ρ, hm⟩ := hw.out
  obtain ⟨b, h1, h2, _⟩ := row_cell (hm.row hr) hk hu
  rw [h1] at hx
  simp [execOp, hx.eval ha, Instr.loadAt, Instr.sureAddr, run_loadVar_one ht hk1 h2]
theorem St.storerow {off : Nat} {u : Value} [tk : TakeR v H e size m cs R] (hx : Opd F x (eptr v size k off)) (hy : Opd F y u) (hs : (P.info? t).map (·.size) = some 1) (h1 : u.oneCell' = true)
    (hk : k < m) (hoff : off < size) (h : St n F (Mm c (row v e size m (cs.set (k * size + off) u) :: R)) (wpList P ops Q rest)) :
    St n F (Mm c H) (wpList P ops Q ({ dst := none, op := .store t x y, type := ty, pos := pos, after := after, guard := none } :: rest)) := by
  refine St.do_none (K := fun u' H' => H' = row v e size m (cs.set (k * size + off) u) :: R) ?_ ?_
  · intro a w ρ ha hm
    have hm' := hm.perm tk.perm
    have hr := row_ok.1 (hm'.ents _ (List.mem_cons_self ..))
    have hlt : k * size + off < cs.length := by
      rw [hr.1]
      have : (k + 1) * size ≤ m * size := Nat.mul_le_mul_right _ hk
      rw [Nat.add_mul] at this; omega
    obtain ⟨b, h2, h3, h4, h5⟩ := row_cell hr hk (List.getElem?_eq_getElem hlt)
    rw [h2] at hx
    obtain ⟨i, hi, hsz⟩ := Option.map_eq_some_iff.1 hs
    refine ⟨.skip, w.setCell ⟨b, k * size + off, none⟩ u, ρ, _, ?_, ⟨_, .inr ⟨rfl, rfl⟩, rfl⟩, ?_⟩
    · simp [execOp, hx.eval ha, hy.eval ha, Instr.storeAt, Instr.sureAddr, storeVar, sizeOf, typeInfo, hi, hsz, cells_one h1, storeCells, run_store P w _ u _ h1, h3, h5, Addr.add_zero']
    · refine hm'.alter rfl ⟨rfl, Nat.le_refl _⟩ rfl (by simp) (fun j hj hne => ?_) (row_ok.2 ?_) (fun b' hb' => by rw [row_key] at hb' ⊢; exact .inl hb')
      · rw [row_key, h4] at hne
        simp only [World.setCell, Array.getElem?_modify]
        rw [if_neg (fun e => hne (by rw [e]))]
      · obtain ⟨hl, h6⟩ := hr
        refine ⟨by rw [List.length_set]; exact hl, ?_⟩
        rcases h6 with ⟨rfl, rfl⟩ | ⟨g, cap, cur, rfl, hg0, hg, hc1, hc2, hcs, htk⟩
        · omega
        · simp only [Value.ownBlock, Option.some.injEq] at h4
          subst h4
          refine .inr ⟨_, cap, _, rfl, hg0, setCell_blk hg, hc1, hc2, by simp [hcs], ?_⟩
          rw [← htk, Array.toList_setIfInBounds, List.take_set]
  · rintro _ _ rfl
    exact h
theorem zeros_of {i : TypeInfo} {zv : Value} {by_ : Nat} (hs : (P.info? e).map (·.size) = some size) (hz : (P.info? e).bind (·.zero) = some zv) (hb : (P.info? e).map (·.bytes) = some by_) (hi : P.info? e = some i) : i.size = size ∧ i.zero = some zv ∧ i.bytes = by_ := by
  rw [hi] at hs hz hb
  exact ⟨by simpa using hs, by simpa using hz, by simpa using hb⟩
theorem run_append_at {w : World} {i : TypeInfo} {zv : Value} {by_ : Nat} (t ty e : TypeId) (ht : P.underlying t = some (.slice e)) (hi : P.info? e = some i) (hz : i.zero = some zv) (hsize : i.size = size) (hby : i.bytes = by_) (hzs : zv.cells.size = size) (hsz : 0 < size)
    (v : Value) (m : Nat) (cs : List Value) (hown : w.ownsRow 0 e size v m cs) (a : Addr) (k cc : Nat) (news : List Value) (hl : news.length = k * size) (hnews : ∀ j u, news[j]? = some u → w.cell? (a.add j) = some u) (h1 : ∀ u ∈ news, u.oneCell' = true)
    (h63 : m + k ≤ maxLen) (hbytes : (m + k) * by_ ≤ 140737488355328) :
    ∃ v' w', (Builtin.append_ #[t, t] ty #[v, .slice (some a) k cc]).run P w = .ok v' w' ∧ w'.ownsRow 0 e size v' (m + k) (cs ++ news) ∧ w.grownBy w' v.ownBlock ∧
      (v' = .slice none 0 0 ↔ v = .slice none 0 0 ∧ k = 0) ∧ (∀ b, v'.ownBlock = some b → v.ownBlock = some b ∨ w.heap.size ≤ b) ∧ w.drawn ≤ w'.drawn := by
  subst hsize
  subst hby
  obtain ⟨v', w', hr, h2, h3, h4⟩ := run_append_own (P := P) w 0 t ty e i zv i.size i.bytes ht hi hz rfl rfl hzs hsz v m cs hown a k cc news hl hnews h1 h63 hbytes (Nat.zero_le _)
  refine ⟨v', w', hr, h2, h3, h4, ?_⟩
  rcases hown.2 with ⟨rfl, rfl⟩ | ⟨g, cap, cur, rfl, hbg, hg, hnc, hcm, hcs, htake⟩
  · obtain ⟨v'', w'', hr', h2', _⟩ := run_append_own (P := P) w w.heap.size t ty e i zv i.size i.bytes ht hi hz rfl rfl hzs hsz (.slice none 0 0) 0 cs ⟨hown.1, .inl ⟨rfl, rfl⟩⟩ a k cc news hl hnews h1 h63 hbytes (Nat.le_refl _)
    rw [hr] at hr'
    simp only [Result.ok.injEq] at hr'
    obtain ⟨rfl, rfl⟩ := hr'
    refine ⟨?_, ?_⟩
    · intro b hb
      rcases h2'.2 with ⟨rfl, _⟩ | ⟨g, cap, cur, rfl, hbg, _⟩
      · simp [Value.ownBlock] at hb
      · simp only [Value.ownBlock, Option.some.injEq] at hb
        subst hb
        exact .inr hbg
    · have hcs0 : cs = [] := by
        have := hown.1
        simpa using this
      rcases Nat.eq_zero_or_pos k with rfl | hk
      · have hn0 : news = [] := by simpa using hl
        subst hn0
        have hr0 : (Builtin.append_ #[t, t] ty #[.slice none 0 0, .slice (some a) 0 cc]).run P w = .ok (.slice none 0 0) w := by
          simp [Builtin.append_, run_underlying ht, sizeOf, typeInfo, hi, Builtin.lenOf, Builtin.firstCells, loadCells, loadCellsFrom]
        rw [hr] at hr0
        simp only [Result.ok.injEq] at hr0
        rw [hr0.2]; exact Nat.le_refl _
      · have hr0 := run_append_nil (P := P) w t ty e i zv ht hi hz a k cc news hl hnews hk (by simp only [maxLen] at h63; omega) (by have : (0 + k) * i.bytes = k * i.bytes := by rw [Nat.zero_add]
                                                                                                                                     omega)
        rw [hr] at hr0
        simp only [Result.ok.injEq] at hr0
        rw [hr0.2]; exact Nat.le_succ _
  · by_cases hroom : m + k ≤ cap
    · have hfit : m * i.size + news.length ≤ cur.size := by rw [hl, hcs, ← Nat.add_mul]; exact Nat.mul_le_mul_right _ hroom
      have hr' := run_append_room (P := P) w t ty e i ht hi g m cap cur hg a k cc news hl hnews h1 hroom hfit
      rw [hr] at hr'
      simp only [Result.ok.injEq] at hr'
      obtain ⟨rfl, rfl⟩ := hr'
      exact ⟨fun b hb => .inl hb, Nat.le_refl _⟩
    · have holds : ∀ j u, cs[j]? = some u → w.cell? ((⟨g, 0, none⟩ : Addr).add j) = some u := hown.cells (g := g) rfl
      have hr' := run_append_grow (P := P) w t ty e i zv ht hi hz ⟨g, 0, none⟩ m cap cs hown.1 holds a k cc news hl hnews (by omega) (by simp only [maxLen] at h63; omega) (growslice_fits (by omega) hbytes)
      rw [hr] at hr'
      simp only [Result.ok.injEq] at hr'
      obtain ⟨rfl, rfl⟩ := hr'
      refine ⟨fun b hb => ?_, Nat.le_succ _⟩
      simp only [Value.ownBlock, Option.some.injEq] at hb
      exact .inr (by omega)
theorem St.appendRow {v2 : Value} {m2 : Nat} {news : List Value} {R1 : List Ent} {zv : Value} {by_ : Nat} [t2 : TakeR v2 H e size m2 news R1] [t1 : TakeR v R1 e size m cs R]
    (hx : Opd F x v) (hy : Opd F y v2) (ht : P.underlying t = some (.slice e)) (hs : (P.info? e).map (·.size) = some size) (hz : (P.info? e).bind (·.zero) = some zv) (hb : (P.info? e).map (·.bytes) = some by_)
    (hone : ∀ u ∈ news, u.oneCell' = true) (hlen : m + m2 ≤ 9223372036854775807) (hroom : (m + m2) * by_ ≤ 140737488355328) (hzs : zv.cells.size = size) (hpos : Nat.ble 1 size = true) (hne : Nat.ble 1 m2 = true) (hd : Nat.ble (d + 1) n = true)
    (h : ∀ v', (v' = .slice none 0 0 ↔ v = .slice none 0 0 ∧ m2 = 0) → St n ((d, v') :: F) (Mm c (row v' e size (m + m2) (cs ++ news) :: R)) (wpList P ops Q rest)) :
    St n F (Mm c H) (wpList P ops Q ({ dst := some d, op := .call { callee := .builtin .append, args := #[x, y], argTypes := #[t, t] }, type := ty, pos := pos, after := after, guard := none } :: rest)) := by
  refine St.do_ (K := fun v' H' => (v' = .slice none 0 0 ↔ v = .slice none 0 0 ∧ m2 = 0) ∧ H' = row v' e size (m + m2) (cs ++ news) :: R) ?_ hd ?_
  · intro a w ρ ha hm
    have hm1 := hm.perm t2.perm
    have hr2 := row_ok.1 (hm1.ents _ (List.mem_cons_self ..))
    have hm2 := hm1.drop.perm t1.perm
    have hr := row_ok.1 (hm2.ents _ (List.mem_cons_self ..))
    have hne' := Nat.le_of_ble_eq_true hne
    obtain ⟨i, hi, hsz⟩ := Option.map_eq_some_iff.1 hs
    obtain ⟨q1, q2, q3⟩ := zeros_of hs hz hb hi
    rcases hr2.2 with ⟨_, rfl⟩ | ⟨g2, cap2, cur2, rfl, _, hg2, hc1, hc2, hcs2, htk2⟩
    · omega
    · obtain ⟨v', w', hrun, how, hgr, hnil, hob, hdr⟩ := run_append_at (P := P) (w := w) t ty e ht hi q2 q1 q3 hzs (Nat.le_of_ble_eq_true hpos) v m cs hr ⟨g2, 0, none⟩ m2 cap2 news hr2.1
        (fun j u hj => by
          rw [Addr.add_lit, Nat.zero_add, cell?_of_blk hg2]
          rw [← htk2, List.getElem?_take] at hj
          split at hj
          · simpa using hj
          · simp at hj) hone (by unfold maxLen; omega) hroom
      refine ⟨.value v', w', ρ, _, ?_, ⟨_, .inl rfl, hnil, rfl⟩, ?_⟩
      · simp [execOp, resolve, invoke, builtin, hx.eval ha, hy.eval ha, hrun]
      · refine hm2.alter hgr.os ⟨hgr.tape, hdr⟩ hgr.output hgr.size (fun j hj hne => ?_) (row_ok.2 how) (fun b' hb' => ?_)
        · rw [row_key] at hne; exact hgr.block j hj (fun e => hne e.symm)
        · rw [row_key] at hb' ⊢; exact hob b' hb'
  · rintro _ _ ⟨h1, rfl⟩
    exact h _ h1
theorem rows_one {α : Type} (Rr : Rp α) (xs : List α) : ∀ u ∈ rows Rr xs, u.oneCell' = true := by
  intro u hu
  simp only [rows, List.mem_flatMap] at hu
  obtain ⟨x, _, hx⟩ := hu
  exact Rr.one x u hx
theorem St.makeSl {zv : Value} {by_ : Nat} {i j : Int} {kl kc : IntKind} {m : Nat} (hx : Opd F x (.int kl i)) (hy : Opd F y (.int kc j)) (ht : P.underlying t = some (.slice e)) (hs : (P.info? e).map (·.size) = some 1) (hz : (P.info? e).bind (·.zero) = some zv) (hb : (P.info? e).map (·.bytes) = some by_)
    (hm : i = m) (hm2 : j = m) (hroom : by_ * m ≤ 281474976710656 ∧ m ≤ 9223372036854775807) (h1 : zv.cells = #[zv]) (hd : Nat.ble (d + 1) n = true)
    (h : ∀ b, St n ((d, .slice (some ⟨b, 0, none⟩) m m) :: F) (Mm c (row (.slice (some ⟨b, 0, none⟩) m m) e 1 m (List.replicate m zv) :: H)) (wpList P ops Q rest)) :
    St n F (Mm c H) (wpList P ops Q ({ dst := some d, op := .makeSlice t x y, type := ty, pos := pos, after := after, guard := none } :: rest)) := by
  subst hm hm2
  refine St.do_ (K := fun u H' => ∃ b, u = .slice (some ⟨b, 0, none⟩) m m ∧ H' = row (.slice (some ⟨b, 0, none⟩) m m) e 1 m (List.replicate m zv) :: H) ?_ hd ?_
  · intro a w ρ ha hmm
    obtain ⟨i, hi, hsz⟩ := Option.map_eq_some_iff.1 hs
    obtain ⟨q1, q2, q3⟩ := zeros_of hs hz hb hi
    have hrun := run_make (P := P) w t e i zv ht hi q2 kl kc m m (by omega) (by omega) (by rw [q3, ← Int.natCast_mul]; exact Int.ofNat_le.2 hroom.1) (by omega)
    have hcells : madeCells zv.cells (m * i.size) = (List.replicate m zv).toArray := by
      rw [q1, h1]
      apply Array.ext
      · simp [madeCells]
      · intro k hk1 hk2
        simp [madeCells, Nat.mod_one]
    simp only [Int.toNat_natCast, hcells] at hrun
    refine ⟨.value (.slice (some ⟨w.heap.size, 0, none⟩) m m), w.alloc (.cells (List.replicate m zv).toArray e), ρ, _, ?_, ⟨_, .inl rfl, _, rfl, rfl⟩, ?_⟩
    · simp [execOp, hx.eval ha, hy.eval ha, hrun]
    · refine hmm.new1 rfl ⟨rfl, Nat.le_refl _⟩ rfl (by simp) (fun k hk => RowKit.Below.heap_alloc w _ k hk) (row_ok.2 ⟨by simp, .inr ⟨w.heap.size, m, _, rfl, Nat.zero_le _, heap_alloc_new w _, Nat.le_refl _, by unfold maxLen; omega, by simp, by simp⟩⟩) ?_
      intro b hb; rw [row_key] at hb; simp [Value.ownBlock] at hb; omega
  · rintro _ _ ⟨b, rfl, rfl⟩
    exact h b
theorem MmR.publish {α : Type} (Rr : Rp α) (xs : List α) {H : List Ent} {ρ : Ro} {w : World} (h : MmR c (J.row v e Rr.size m cs :: H) ρ w) (hcs : cs = rows Rr xs) (hm : m = xs.length) (hwf : ∀ x ∈ xs, Rr.wf x) : Mm c (J.dat (J.sl Rr v xs) :: H) w := by
  subst hcs hm
  have hr := row_ok.1 (h.ents _ (List.mem_cons_self ..))
  rcases hr.2 with ⟨rfl, h0⟩ | ⟨g, cap, cur, rfl, _, hg, hc1, hc2, hcs, htk⟩
  · have hx : xs = [] := List.eq_nil_of_length_eq_zero h0
    subst hx
    exact Mm.mk (h.drop.fact _ ⟨none, 0, rfl, Nat.le_refl _, by unfold maxLen; omega, fun x hx => by simp at hx, .inl rfl⟩)
  · have hkey : (J.row (Value.slice (some ⟨g, 0, none⟩) xs.length cap) e Rr.size xs.length (rows Rr xs)).key = some g := by rw [row_key]; rfl
    have hown := h.own _ (List.mem_cons_self ..) g hkey
    have hgl : g < w.heap.size := (Array.getElem?_eq_some_iff.1 hg).1
    have hd0 := List.pairwise_cons.1 h.dis
    refine Mm.mk (ρ := fun k => if k = g then some (.cells cur e (0, 0)) else ρ k) ?_
    have hle : Ro.le ρ (fun k => if k = g then some (.cells cur e (0, 0)) else ρ k) := by
      intro k o hk
      by_cases e1 : k = g
      · subst e1; rw [hown.1] at hk; cases hk
      · simp only [e1, if_false]; exact hk
    refine MmR.fact ⟨h.os, h.tape, h.output, h.size, h.old, ?_, Ro.le_trans h.le hle, ?_, ?_, ?_, hd0.2⟩ _ ?_
    · intro k o hk
      by_cases e1 : k = g
      · subst e1; simp only [if_true, Option.some.injEq] at hk; subst hk; exact hg
      · simp only [e1, if_false] at hk; exact h.fits k o hk
    · intro k hk hM
      by_cases e1 : k = g
      · subst e1
        rcases hown.2 with h2 | h2
        · omega
        · exact absurd h2 hM
      · simp only [e1, if_false]; exact h.new k hk hM
    · intro E hE
      exact E.loc hle (fun _ _ => rfl) (h.ents E (List.mem_cons_of_mem _ hE))
    · intro E hE b hb
      have h1 := h.own E (List.mem_cons_of_mem _ hE) b hb
      refine ⟨?_, h1.2⟩
      by_cases e1 : b = g
      · subst e1; exact absurd hb (hd0.1 E hE _ hkey)
      · simp only [e1, if_false]; exact h1.1
    · refine ⟨some ⟨g, 0, none⟩, cap, rfl, hc1, hc2, hwf, ?_⟩
      refine .inr ⟨g, 0, cur, e, (0, 0), rfl, by simp, fun j u hj => ?_⟩
      rw [← htk, List.getElem?_take] at hj
      split at hj
      · simpa using hj
      · simp at hj
theorem St.publish {α : Type} {T : Act → World → Prop} (v : Value) (Rr : Rp α) (xs : List α) [tk : TakeR v H e Rr.size m cs R] (hcs : cs = rows Rr xs) (hm : m = xs.length) (hwf : ∀ x ∈ xs, Rr.wf x)
    (h : St n F (Mm c (dat (sl Rr v xs) :: R)) T) : St n F (Mm c H) T :=
  h.weak fun _ hw => let ⟨_, k⟩ := hw.out; (k.perm tk.perm).publish Rr xs hcs hm hwf
end rows
end
end Go.J

/-
  (YtolmidffiegkaaaDoorJ6)
  Regions that draw their order: operations that keep the assertion first, in whatever order, then the others in a forced order; and any order, one by one.
  Conditions: none; everything holds of any program.
-/
namespace Go.J
open Go
section
variable {P : Program} {ops : Array Oper} {C : World → Prop} {Q : Exit → Act → World → Prop}
def upTo (k : Nat) (listed : Array Bool) (N : Nat) : Prop := listed.size = N ∧ ∀ j, j < N → listed[j]? = some (decide (j < k))
theorem upTo.getD {k N : Nat} {listed : Array Bool} (h : upTo k listed N) (j : Nat) (d : Bool) (hj : j < N) : listed.getD j d = decide (j < k) := by
 rw [Array.getD_eq_getD_getElem?, h.2 j hj]; rfl
theorem upTo.out {k N : Nat} {listed : Array Bool} (h : upTo k listed N) (j : Nat) (d : Bool) (hj : N ≤ j) : listed.getD j d = d := by
 rw [Array.getD_eq_getD_getElem?, Array.getElem?_eq_none (by rw [h.1]; exact hj)]; rfl
theorem upTo.set {k N : Nat} {listed : Array Bool} (h : upTo k listed N) : upTo (k + 1) (listed.setIfInBounds k true) N := by
 refine ⟨by simp [h.1], fun j hj => ?_⟩
 rw [Array.getElem?_setIfInBounds]
 by_cases e : k = j
 ·subst e; simp [h.1, hj]
 ·rw [if_neg e, h.2 j hj]; congr 1
  rw [Bool.eq_iff_iff]; simp only [decide_eq_true_eq]; omega
theorem head_ready_ne {ops' : Array Oper} {listed : Array Bool} (hs : listed.size = ops'.size) (hE : ∀ (i : Nat) (o : Oper), ops'[i]? = some o → ∀ e ∈ o.after, e.on < i) (hu : ∃ i, i < ops'.size ∧ listed.getD i true = false) : Region.ready .any ops' listed ≠ [] := by
 obtain ⟨i, hi⟩ := exists_least hu
 obtain ⟨⟨hi1, hi2⟩, hmin⟩ := hi
 intro h0
 have : i ∈ Region.ready .any ops' listed := by
  refine mem_ready.2 ⟨hi2, ops'[i], Array.getElem?_eq_getElem hi1, fun e he _ => ?_⟩
  have h1 := hE i _ (Array.getElem?_eq_getElem hi1) e he
  have hlt : e.on < listed.size := by omega
  cases hl : listed.getD e.on true with
  | false =>
   have := hmin e.on ⟨by omega, hl⟩
   omega
  | true => rw [Array.getD_eq_getD_getElem?, Array.getElem?_eq_getElem hlt] at hl ⊢; exact hl
 rw [h0] at this
 cases this
theorem St.any {n : Nat} {F : Fr} {A : World → Prop} {id : Nat} {l : List Oper} (hm : P.follows .mixedOrders = true) (hA : Drawn A)
  (h : St n F A (wpAny P .any l.toArray Q l.length (Array.replicate l.length false))) : St n F A ((Code.region id l.toArray true).wp P Q) :=
 fun a w ha hw => wp_region_any hm (by simpa using h a _ ha (hA w hw))
theorem St.one {n : Nat} {F : Fr} {A : World → Prop} {i : Nat} {o : Oper} {K : Act → World → Prop} (ho : ops[i]? = some o) (h : St n F A (wpList P ops (Exit.then K Q) [o])) : St n F A (wpOp P ops Q i K) := by
 intro a w ha hw
 have h1 := h a w ha hw
 unfold wpOp
 rw [ho]
 simp only [wpList] at h1
 simp only
 split
 ·rename_i hwt
  simp only [hwt, if_true] at h1
  rcases h1 with h1 | ⟨h1, a0, w0, h2⟩
  ·refine .inl ?_
   unfold Oper.wp at h1 ⊢
   generalize (execOp a.eval o).run P w = r at h1 ⊢
   cases r with
   | ok nx w' =>
    cases nx <;> simp only [Oper.upon] at h1 ⊢ <;>
     first
      | exact h1
      | exact Calls.mono h1 (fun e w'' he => by cases e <;> exact he)
      | exact Rows.mono h1 (fun _ _ he => he)
   | halt x w' => cases x <;> simp only [Oper.upon] at h1 ⊢ <;> exact h1
  ·exact .inr ⟨h1, a0, w0, h2⟩
 ·rename_i hwt
  simp only [hwt] at h1
  exact h1
end
end Go.J

/-
  (YtolmidffiegkaaaDoorJ7)
  Calls that are lent what the caller owns; captured variables as data; parts of slices.
  Conditions: none; everything holds of any program.
-/
namespace Go.J
open Go
def cel (b : Nat) (v : Value) : Dat where
 f ρ := ∃ C e fr, ρ b = some (.cells C e fr) ∧ C[0]? = some v
 mono ρ ρ' h := by
  rintro ⟨C, e, fr, h1, h2⟩
  exact ⟨C, e, fr, h _ _ h1, h2⟩
class InCel (b : Nat) (H : List Ent) (v : outParam Value) : Prop where
 mem : dat (cel b v) ∈ H
instance (priority := high) InCel.here (b : Nat) (v : Value) (H : List Ent) : InCel b (dat (cel b v) :: H) v := ⟨List.mem_cons_self ..⟩
instance InCel.there (b : Nat) (v : Value) (E : Ent) (H : List Ent) [h : InCel b H v] : InCel b (E :: H) v := ⟨List.mem_cons_of_mem _ h.mem⟩
def all (w : World) : Ro := fun k => w.heap[k]?
theorem MmR.le_all {c : Ctx} {H : List Ent} {ρ : Ro} {w : World} (h : MmR c H ρ w) : Ro.le ρ (J.all w) := fun k o hk => h.fits k o hk
def Lent (c : Ctx) (H : List Ent) (ds : List Dat) : Prop := ∀ ρ w, MmR c H ρ w → ∀ d ∈ ds, d.f (J.all w)
section
variable {c : Ctx} {H R : List Ent} {ds : List Dat} {v : Value}
theorem Lent.nil : Lent c H [] := fun _ _ _ _ h => by simp at h
theorem Lent.dat {d : Dat} (h : Lent c H ds) [hd : InD d H] : Lent c H (d :: ds) := fun ρ w hm d' hd' => by
 rcases List.mem_cons.1 hd' with rfl | hd'
 ·exact d'.mono _ _ hm.le_all (hm.dat hd)
 ·exact h ρ w hm d' hd'
theorem sl_of_row {α : Type} {Rr : Rp α} {xs : List α} {e : TypeId} {m : Nat} {cs : List Value} {w : World} (h : w.ownsRow 0 e Rr.size v m cs) (hcs : cs = rows Rr xs) (hm : m = xs.length) (hwf : ∀ x ∈ xs, Rr.wf x) : (sl Rr v xs).f (J.all w) := by
 subst hcs hm
 rcases h.2 with ⟨rfl, h0⟩ | ⟨g, cap, cur, rfl, _, hg, hc1, hc2, hcs, htk⟩
 ·have hx : xs = [] := List.eq_nil_of_length_eq_zero h0
  subst hx
  exact ⟨none, 0, rfl, Nat.le_refl _, by unfold maxLen; omega, fun x hx => by simp at hx, .inl rfl⟩
 ·refine ⟨some ⟨g, 0, none⟩, cap, rfl, hc1, hc2, hwf, .inr ⟨g, 0, cur, e, (0, 0), rfl, hg, fun j u hj => ?_⟩⟩
  rw [← htk, List.getElem?_take] at hj
  split at hj
  ·simpa using hj
  ·simp at hj
theorem Lent.row {α : Type} {Rr : Rp α} {xs : List α} {e : TypeId} {size m : Nat} {cs : List Value} (h : Lent c H ds) [hr : InR v H e size m cs] (hsz : size = Rr.size) (hcs : cs = rows Rr xs) (hm : m = xs.length) (hwf : ∀ x ∈ xs, Rr.wf x) : Lent c H (sl Rr v xs :: ds) := fun ρ w hmm d' hd' => by
 subst hsz
 rcases List.mem_cons.1 hd' with rfl | hd'
 ·exact sl_of_row (hmm.row hr) hcs hm hwf
 ·exact h ρ w hmm d' hd'
theorem Lent.blk {b : Nat} {u : Value} {e : TypeId} {fr : Nat × Nat} {L : List Value} (h : Lent c H ds) [hb : InB b H (.cells (u :: L).toArray e fr)] : Lent c H (cel b u :: ds) := fun ρ w hmm d' hd' => by
 rcases List.mem_cons.1 hd' with rfl | hd'
 ·exact ⟨_, e, fr, blk_ok.1 (hmm.ents _ hb.mem), by simp⟩
 ·exact h ρ w hmm d' hd'
def Solid (H : List Ent) : Prop := ∀ E ∈ H, ∀ ρ ρ' w, E.ok ρ w → E.ok ρ' w
theorem Solid.nil : Solid [] := fun _ h => by simp at h
theorem Solid.row {H : List Ent} {e : TypeId} {size m : Nat} {cs : List Value} (h : Solid H) : Solid (J.row v e size m cs :: H) := fun E hE ρ ρ' w k => by
 rcases List.mem_cons.1 hE with rfl | hE
 ·exact row_ok.2 (row_ok.1 k)
 ·exact h E hE ρ ρ' w k
theorem Solid.blk {H : List Ent} {b : Nat} {o : Obj} (h : Solid H) : Solid (J.blk b o :: H) := fun E hE ρ ρ' w k => by
 rcases List.mem_cons.1 hE with rfl | hE
 ·exact blk_ok.2 (blk_ok.1 k)
 ·exact h E hE ρ ρ' w k
theorem owns_dats (ds : List Dat) (b : Nat) : ¬ owns (ds.map dat) b := by
 rintro ⟨E, hE, hb⟩
 obtain ⟨d, _, rfl⟩ := List.mem_map.1 hE
 rw [dat_key] at hb; cases hb
theorem Mm.lendG {dr : Prop} {P : Program} {f : FuncId} {args : Array Value} {post : Value → List Ent → Prop} (hc : FnG dr P f args (ds.map J.dat) post) (hdr : c.dr → dr) (hl : Lent c H ds) (hs : ∀ v H', post v H' → Solid H') {w : World} (hm : Mm c H w) :
  Calls P f args w fun e w' => ∃ v H', e = .returned v ∧ post v H' ∧ Mm c (H' ++ H) w' := by
 obtain ⟨ρ, hm⟩ := hm.out
 have st : Start (ds.map J.dat) (J.all w) w :=
  ⟨rfl, ⟨rfl, fun _ => Nat.le_refl _⟩, rfl, Nat.le_refl _, fun _ _ _ => rfl, fun _ _ h => h, Ro.le_refl _, fun _ _ _ => rfl, fun E hE => by
    obtain ⟨d, hd, rfl⟩ := List.mem_map.1 hE
    exact dat_ok.2 (hl ρ w hm d hd),
   (fun E hE b hb => by
    obtain ⟨d, hd, rfl⟩ := List.mem_map.1 hE
    rw [dat_key] at hb; cases hb),
   by
    refine List.pairwise_map.2 (List.Pairwise.imp_of_mem (R := fun _ _ => True) ?_ (List.pairwise_of_forall fun _ _ => trivial))
    intro d d' _ _ _ b hb
    rw [dat_key] at hb; cases hb⟩
 refine (hc w (J.all w) st).mono ?_
 rintro e w' ⟨v, H', he, hp, hm'⟩
 obtain ⟨ρ', hm'⟩ := hm'.out
 refine ⟨v, H', he, hp, ?_⟩
 have hold : ∀ k, k < w.heap.size → w'.heap[k]? = w.heap[k]? := fun k hk => hm'.old k hk (owns_dats ds k)
 have hnew : ∀ E ∈ H', ∀ b, E.key = some b → w.heap.size ≤ b := fun E hE b hb => by
  rcases (hm'.own E hE b hb).2 with h1 | h1
  ·exact h1
  ·exact absurd h1 (owns_dats ds b)
 refine Mm.mk (ρ := ρ) ?_
 have h0 : MmR c ([] ++ H) ρ w := hm
 refine MmR.step h0 ⟨hm'.os, ⟨hm'.tape.1, fun q => hm'.tape.2 (hdr q)⟩, hm'.output, hm'.size, fun k hk _ => hold k hk, fun k o hk => ?_, Ro.le_refl _, fun _ _ _ => rfl, fun E hE => hs v H' hp E hE ρ' ρ w' (hm'.ents E hE), ?_, hm'.dis⟩
 ·rw [hold k (hm.rlt hk)]; exact hm.fits k o hk
 ·intro E hE b hb
  refine ⟨?_, .inl (hnew E hE b hb)⟩
  cases hr : ρ b with
  | none => rfl
  | some o => have h1 := hm.rlt hr; have h2 := hnew E hE b hb; omega
theorem Mm.lend {P : Program} {f : FuncId} {args : Array Value} {post : Value → List Ent → Prop} (hc : FnH P f args (ds.map J.dat) post) (hl : Lent c H ds) (hs : ∀ v H', post v H' → Solid H') {w : World} (hm : Mm c H w) :
  Calls P f args w fun e w' => ∃ v H', e = .returned v ∧ post v H' ∧ Mm c (H' ++ H) w' := Mm.lendG hc.gen (fun _ => trivial) hl hs hm
end
section
variable {P : Program} {n : Nat} {F : Fr} {A : World → Prop} {c : Ctx} {H R : List Ent} {ty : TypeId} {x y z : Operand} {v : Value} {Q : Exit → Act → World → Prop} {ops : Array Oper} {rest : List Oper}
 {d : Nat} {pos : String} {after : Array Edge} {t e : TypeId}
theorem Ev.ldcel {b : Nat} {u : Value} {dd : TypeDesc} [hc : InCel b H u] (hx : Opd F x (.pointer (some ⟨b, 0, none⟩))) (ht : P.underlying t = some dd) (hk1 : (match dd with | .struct _ | .array _ _ => False | _ => True)) :
  Ev P n F (Mm c H) (.load t x) ty u := .of_run fun a w ha hw => by
 obtain ⟨ρ, hm⟩ := hw.out
 obtain ⟨C, e, fr, h1, h2⟩ := dat_ok.1 (hm.ents _ hc.mem)
 simp [execOp, hx.eval ha, Instr.loadAt, Instr.sureAddr, run_loadVar_one ht hk1 ((cell?_of_blk (hm.fits _ _ h1)).trans h2)]
theorem Ev.callcL {f : FuncId} {xs : List Operand} {ats : Array TypeId} {vs caps : List Value} {ds : List Dat} (hc : FnV P f (vs ++ caps).toArray ds v) (hcb : Callable P f) (hf : Opd F x (.func (.func f) #[] caps.toArray)) (hx : Opds F xs vs) (hl : Lent c H ds) :
  Ev P n F (Mm c H) (.call { callee := .value x, args := xs.toArray, argTypes := ats }) ty v := by
 intro a w ha hw
 rw [exec_call hcb (Opds.cons hf hx) ha w]
 simp only [Oper.quietUpon, true_and]
 refine (Mm.lend (post := fun u H' => u = v ∧ H' = []) (fun w ρ hs => (hc w ρ hs).mono fun e w' ⟨u, H', h1, h2, h3⟩ => ⟨u, [], h1, ⟨h2, rfl⟩, ?_⟩) hl (fun _ _ h => by rw [h.2]; exact Solid.nil) hw).mono ?_
 ·obtain ⟨ρ', h3⟩ := h3.out
  exact Mm.mk (MmR.left (L := []) h3)
 ·rintro e w' ⟨u, H', rfl, ⟨rfl, rfl⟩, hm⟩
  exact ⟨rfl, hm⟩
@[irreducible] def slv (v : Value) (size l h : Nat) : Value :=
 match v with
 | .slice a _ cap => .slice (if cap = l then a else a.map (·.add (l * size))) (h - l) (cap - l)
 | _ => undef
theorem slv_slice (a : Option Addr) (m cap size l h : Nat) : slv (.slice a m cap) size l h = .slice (if cap = l then a else a.map (·.add (l * size))) (h - l) (cap - l) := by unfold slv; rfl
theorem sl_part {α : Type} {Rr : Rp α} {xs : List α} {l h : Nat} {ρ : Ro} (hs : (sl Rr v xs).f ρ) (hl : l ≤ h) (hh : h ≤ xs.length) : (sl Rr (slv v Rr.size l h) ((xs.drop l).take (h - l))).f ρ := by
 obtain ⟨a, cap, rfl, h2, h3, h4, h5⟩ := hs
 have hlen : ((xs.drop l).take (h - l)).length = h - l := by simp; omega
 refine ⟨if cap = l then a else a.map (·.add (l * Rr.size)), cap - l, by rw [slv_slice, hlen], by omega, by omega, fun x hx => h4 x (List.mem_of_mem_drop (List.mem_of_mem_take hx)), ?_⟩
 by_cases h0 : (xs.drop l).take (h - l) = []
 ·exact .inl h0
 ·right
  have hlt : l < h := by
   rcases Nat.lt_or_ge l h with h6 | h6
   ·exact h6
   ·exact absurd (by rw [show h - l = 0 by omega]; rfl) h0
  have hcl : cap ≠ l := by omega
  rcases h5 with rfl | ⟨b, off, C, e, fr, rfl, h6, h7⟩
  ·simp at hh; omega
  ·refine ⟨b, off + l * Rr.size, C, e, fr, by rw [if_neg hcl]; simp [Addr.add_lit], h6, fun j u hj => ?_⟩
   rw [Nat.add_assoc]
   apply h7
   -- the cells of the part are the cells of the whole, from there on
   have key : ∀ (ys : List α) (l : Nat), l ≤ ys.length → rows Rr ys = rows Rr (ys.take l) ++ rows Rr (ys.drop l) := fun ys l _ => by
    unfold rows; rw [← List.flatMap_append, List.take_append_drop]
   have k1 := key xs l (by omega)
   have k2 := key (xs.drop l) (h - l) (by simp; omega)
   have e1 : (xs.take l).length = l := by simp; omega
   rw [k1, List.getElem?_append_right (by rw [rows_length, e1]; omega), rows_length, k2]
   rw [e1, show l * Rr.size + j - l * Rr.size = j by omega]
   have hjl := (List.getElem?_eq_some_iff.1 hj).1
   rw [List.getElem?_append_left hjl]
   exact hj
theorem St.part {α : Type} {Rr : Rp α} {xs : List α} {T : Act → World → Prop} (v : Value) (l h : Nat) [hd : InS v H α Rr xs] (hl : l ≤ h) (hh : h ≤ xs.length)
  (k : St n F (Mm c (dat (sl Rr (slv v Rr.size l h) ((xs.drop l).take (h - l))) :: H)) T) : St n F (Mm c H) T :=
 St.fact _ (fun _ _ hm => sl_part (hm.sl hd) hl hh) k
theorem St.rowEq {size m : Nat} {cs cs' : List Value} {T : Act → World → Prop} (v : Value) [tk : TakeR v H e size m cs R] (h : cs = cs') (k : St n F (Mm c (row v e size m cs' :: R)) T) : St n F (Mm c H) T := by
 subst h
 exact k.weak fun _ hw => let ⟨_, q⟩ := hw.out; Mm.mk (q.perm tk.perm)
theorem St.rowEqN {size m m' : Nat} {cs cs' : List Value} {T : Act → World → Prop} (v : Value) [tk : TakeR v H e size m cs R] (hm : m = m') (h : cs = cs') (k : St n F (Mm c (row v e size m' cs' :: R)) T) : St n F (Mm c H) T := by
 subst h hm
 exact k.weak fun _ hw => let ⟨_, q⟩ := hw.out; Mm.mk (q.perm tk.perm)
theorem rows_set1 {α : Type} {Rr : Rp α} (h1 : Rr.size = 1) {u : Value} {x : α} (hx : Rr.cells x = [u]) : ∀ (xs : List α) (k : Nat), (rows Rr xs).set k u = rows Rr (xs.set k x)
 | [], _ => by simp [rows]
 | y :: xs, 0 => by
  have := Rr.len y
  rw [h1] at this
  obtain ⟨v, hv⟩ : ∃ v, Rr.cells y = [v] := by
   match hc : Rr.cells y, this with
   | [v], _ => exact ⟨v, rfl⟩
  simp [rows, hv, hx]
 | y :: xs, k + 1 => by
  have := Rr.len y
  rw [h1] at this
  obtain ⟨v, hv⟩ : ∃ v, Rr.cells y = [v] := by
   match hc : Rr.cells y, this with
   | [v], _ => exact ⟨v, rfl⟩
  have ih := rows_set1 h1 hx xs k
  simp only [rows, List.flatMap_cons, hv, List.singleton_append, List.set_cons_succ] at ih ⊢
  rw [ih]
theorem rows_snoc {α : Type} (Rr : Rp α) (xs : List α) (x : α) : rows Rr (xs ++ [x]) = rows Rr xs ++ Rr.cells x := by simp [rows]
end
end Go.J

/-
  (YtolmidffiegkaaaDoorJ8)
  Calls that own a part of memory and are lent the rest; tests that part a region; rows that are cut; variables that are read only from here on.
  Conditions: none; everything holds of any program.
-/
namespace Go.J
open Go
instance (priority := high) TakeL.self (L : List Ent) : TakeL L L [] := ⟨by simp⟩
open Classical in
noncomputable def allBut (L : List Ent) (w : World) : Ro := fun k => if owns L k then none else w.heap[k]?
def LentO (c : Ctx) (L R : List Ent) (ds : List Dat) : Prop := ∀ ρ w, MmR c (L ++ R) ρ w → ∀ d ∈ ds, d.f (allBut L w)
section
variable {c : Ctx} {L R : List Ent} {ds : List Dat} {v : Value}
theorem MmR.le_but {ρ : Ro} {w : World} (h : MmR c (L ++ R) ρ w) : Ro.le ρ (allBut L w) := fun k o hk => by
 unfold allBut
 rw [if_neg]
 ·exact h.fits k o hk
 ·rintro ⟨E, hE, hb⟩
  have := (h.own E (List.mem_append_left _ hE) k hb).1
  rw [hk] at this; cases this
theorem allBut_of {ρ : Ro} {w : World} (h : MmR c (L ++ R) ρ w) {E : Ent} (hE : E ∈ R) {b : Nat} (hb : E.key = some b) : allBut L w b = w.heap[b]? := by
 unfold allBut
 rw [if_neg]
 rintro ⟨E', hE', hb'⟩
 exact (List.pairwise_append.1 h.dis).2.2 E' hE' E hE b hb' hb
theorem LentO.nil : LentO c L R [] := fun _ _ _ _ h => by simp at h
theorem LentO.dat {d : Dat} (h : LentO c L R ds) [hd : InD d R] : LentO c L R (d :: ds) := fun ρ w hm d' hd' => by
 rcases List.mem_cons.1 hd' with rfl | hd'
 ·exact d'.mono _ _ hm.le_but (dat_ok.1 (hm.ents _ (List.mem_append_right _ hd.mem)))
 ·exact h ρ w hm d' hd'
theorem LentO.row {α : Type} {Rr : Rp α} {xs : List α} {e : TypeId} {size m : Nat} {cs : List Value} (h : LentO c L R ds) [hr : InR v R e size m cs] (hsz : size = Rr.size) (hcs : cs = rows Rr xs) (hm : m = xs.length) (hwf : ∀ x ∈ xs, Rr.wf x) : LentO c L R (sl Rr v xs :: ds) := fun ρ w hmm d' hd' => by
 subst hsz
 rcases List.mem_cons.1 hd' with rfl | hd'
 ·have hrow := row_ok.1 (hmm.ents _ (List.mem_append_right _ hr.mem))
  obtain ⟨a, cap, h1, h2, h3, h4, h5⟩ := sl_of_row (w := w) hrow hcs hm hwf
  refine ⟨a, cap, h1, h2, h3, h4, ?_⟩
  rcases h5 with h5 | ⟨b, off, C, e', fr, rfl, h6, h7⟩
  ·exact .inl h5
  ·refine .inr ⟨b, off, C, e', fr, rfl, ?_, h7⟩
   rw [allBut_of hmm hr.mem (b := b) (by rw [row_key, h1]; rfl)]
   exact h6
 ·exact h ρ w hmm d' hd'
theorem LentO.blk {b : Nat} {u : Value} {e : TypeId} {fr : Nat × Nat} {l : List Value} (h : LentO c L R ds) [hb : InB b R (.cells (u :: l).toArray e fr)] : LentO c L R (cel b u :: ds) := fun ρ w hmm d' hd' => by
 rcases List.mem_cons.1 hd' with rfl | hd'
 ·refine ⟨(u :: l).toArray, e, fr, ?_, rfl⟩
  rw [allBut_of hmm hb.mem (b := b) (blk_key _ _)]
  exact blk_ok.1 (hmm.ents _ (List.mem_append_right _ hb.mem))
 ·exact h ρ w hmm d' hd'
end
section
variable {P : Program} {n : Nat} {F : Fr} {A : World → Prop} {c : Ctx} {H R : List Ent} {ty : TypeId} {x y z : Operand} {v : Value} {Q : Exit → Act → World → Prop} {ops : Array Oper} {rest : List Oper}
 {d : Nat} {pos : String} {after : Array Edge} {t e : TypeId}
theorem St.split {T : Act → World → Prop} (k : Nat) (b : Bool) (hk : look F k = some (.bool b)) (ht : b = true → St n ((k, .bool true) :: F) A T) (hf : b = false → St n ((k, .bool false) :: F) A T) : St n F A T := by
 intro a w ha hw
 have key : ∀ u, u = Value.bool b → Has n a ((k, u) :: F) := fun u hu => ⟨ha.size, ha.defers, fun t v hv => by
  simp only [look] at hv
  cases hb : Nat.beq t k with
  | true =>
   have e : t = k := Nat.eq_of_beq_eq_true hb
   subst e
   simp only [hb, cond_true, Option.some.injEq] at hv
   subst hv
   rw [hu]; exact ha.slot _ _ hk
  | false => simp only [hb, cond_false] at hv; exact ha.slot _ _ hv⟩
 cases hb : b with
 | true => exact ht hb a w (key _ (by rw [hb])) hw
 | false => exact hf hb a w (key _ (by rw [hb])) hw
theorem St.skipg {j dj : Nat} {want : Bool} {op : Op} (hj : (ops[j]?).bind (·.dst) = some dj) (hl : look F dj = some (.bool (!want))) (hd : Nat.ble (d + 1) n = true)
  (h : St n ((d, undef) :: F) A (wpList P ops Q rest)) : St n F A (wpList P ops Q ({ dst := some d, op := op, type := ty, pos := pos, after := after, guard := some (j, want) } :: rest)) := by
 intro a w ha hw
 have hwt := wanted_of (l := ops) (c := false) (o := { dst := some d, op := op, type := ty, pos := pos, after := after, guard := some (j, want) }) rfl hj (ha.slot _ _ hl) ⟨(fun h => by cases h), fun _ => .inl rfl⟩
 simp only [wpList, hwt]
 exact h _ w (ha.put (Nat.le_of_ble_eq_true hd) undef) hw
theorem St.takeg {j dj : Nat} {want : Bool} {op : Op} {dd : Option Tmp} (hj : (ops[j]?).bind (·.dst) = some dj) (hl : look F dj = some (.bool want))
  (h : St n F A (wpList P ops Q ({ dst := dd, op := op, type := ty, pos := pos, after := after, guard := none } :: rest))) :
  St n F A (wpList P ops Q ({ dst := dd, op := op, type := ty, pos := pos, after := after, guard := some (j, want) } :: rest)) := by
 intro a w ha hw
 have hwt := wanted_of (l := ops) (c := true) (o := { dst := dd, op := op, type := ty, pos := pos, after := after, guard := some (j, want) }) rfl hj (ha.slot _ _ hl) ⟨fun _ => rfl, (fun h => by cases h)⟩
 have h1 := h a w ha hw
 simp only [wpList, hwt, if_true]
 simp only [wpList, Region.wanted, if_true] at h1
 rcases h1 with h1 | ⟨h1, h2⟩
 ·left
  unfold Oper.wp Oper.upon at h1 ⊢
  rw [execOp_bare] at h1 ⊢
  exact h1
 ·right
  refine ⟨?_, h2⟩
  unfold Oper.asks at h1 ⊢
  rw [execOp_bare] at h1 ⊢
  exact h1
section rows
variable {size m : Nat} {cs : List Value}
theorem St.rowOne {T : Act → World → Prop} (v : Value) [hr : InR v H e size m cs] (h : v.oneCell' = true → cs.length = m * size → St n F (Mm c H) T) : St n F (Mm c H) T := by
 intro a w ha hw
 obtain ⟨ρ, hm⟩ := hw.out
 have h1 := hm.row hr
 refine h ?_ h1.1 a w ha hw
 rcases h1.2 with ⟨rfl, _⟩ | ⟨g, cap, cur, rfl, _⟩ <;> rfl
theorem Ev.slicerow_h {j : Int} {h : Nat} {kj : IntKind} {hi : Operand} [hr : InR v H e size m cs] (hx : Opd F x v) (hhi : Opd F hi (.int kj j)) (ht : P.underlying t = some (.slice e)) (hs : (P.info? e).map (·.size) = some size)
  (hj : j = h) (hh : h ≤ m) : Ev P n F (Mm c H) (.slice t x none (some hi) none) ty (slv v size 0 h) := .of_run fun a w ha hw => by
 obtain ⟨ρ, hm⟩ := hw.out
 obtain ⟨inf, hinf, hsz⟩ := Option.map_eq_some_iff.1 hs
 subst hj
 rcases (hm.row hr).2 with ⟨rfl, rfl⟩ | ⟨g, cap, cur, rfl, _, _, hc1, _⟩
 ·have b1 : (0 : Int) ≤ (h : Int) ∧ (h : Int) ≤ ((0 : Nat) : Int) := by omega
  simp only [execOp, hx.eval ha, hhi.eval ha, Option.map_some, Option.map_none, Instr.sliceAt, Instr.slice, Instr.sliceBounds, Instr.sliceBound, asIntOf, Sem.run_bind, run_underlying ht, Result.andThen_ok, Sem.run_pure, b1, and_self, if_true, Int.toNat_natCast, sizeOf, typeInfo, run_program, hinf, hsz, slv_slice]
 ·have b1 : (0 : Int) ≤ (h : Int) ∧ (h : Int) ≤ (cap : Int) := by omega
  simp only [execOp, hx.eval ha, hhi.eval ha, Option.map_some, Option.map_none, Instr.sliceAt, Instr.slice, Instr.sliceBounds, Instr.sliceBound, asIntOf, Sem.run_bind, run_underlying ht, Result.andThen_ok, Sem.run_pure, b1, and_self, if_true, Int.toNat_natCast, sizeOf, typeInfo, run_program, hinf, hsz, slv_slice]
theorem St.rowCut {T : Act → World → Prop} (v : Value) (h : Nat) [tk : TakeR v H e size m cs R] (hh : h ≤ m) (k : St n F (Mm c (row (slv v size 0 h) e size h (cs.take (h * size)) :: R)) T) : St n F (Mm c H) T := by
 refine k.weak fun w hw => ?_
 obtain ⟨ρ, hm⟩ := hw.out
 have hm := hm.perm tk.perm
 have hr := row_ok.1 (hm.ents _ (List.mem_cons_self ..))
 have hlen : (cs.take (h * size)).length = h * size := by
  rw [List.length_take, hr.1]
  exact Nat.min_eq_left (Nat.mul_le_mul_right _ hh)
 rcases hr.2 with ⟨rfl, rfl⟩ | ⟨g, cap, cur, rfl, h0, hg, hc1, hc2, hcs, htk⟩
 ·have : h = 0 := by omega
  subst this
  refine Mm.mk (hm.alter rfl ⟨rfl, Nat.le_refl _⟩ rfl (Nat.le_refl _) (fun _ _ _ => rfl) (row_ok.2 ⟨hlen, .inl ⟨?_, rfl⟩⟩) (fun b hb => ?_))
  ·rw [slv_slice]; simp
  ·rw [row_key, slv_slice] at hb; simp [Value.ownBlock] at hb
 ·have e1 : slv (.slice (some ⟨g, 0, none⟩) m cap) size 0 h = .slice (some ⟨g, 0, none⟩) h cap := by
   rw [slv_slice]
   simp [Addr.add_zero']
  rw [e1]
  refine Mm.mk (hm.alter rfl ⟨rfl, Nat.le_refl _⟩ rfl (Nat.le_refl _) (fun _ _ _ => rfl) (row_ok.2 ⟨hlen, .inr ⟨g, cap, cur, rfl, h0, hg, by omega, hc2, hcs, ?_⟩⟩) (fun b hb => ?_))
  ·rw [← htk, List.take_take, Nat.min_eq_left (Nat.mul_le_mul_right _ hh)]
  ·rw [row_key] at hb ⊢; exact .inl hb
end rows
end
end Go.J

/-
  (YtolmidffiegkaaaDoorJ9)
  Picks whose test is known; lists of entries put together.
  Conditions: none; everything holds of any program.
-/
namespace Go.J
open Go
theorem part_one {P : Program} {t : TypeId} {xs : Array Value} {k : Nat} {v : Value} {w : World} (h : (match P.underlying t with | some (.struct _) | some (.array _ _) | none => false | _ => true) = true) (hv : xs[k]? = some v) : (part t xs k).run P w = .ok v w := by
 unfold part
 cases hu : P.underlying t with
 | none => rw [hu] at h; cases h
 | some d => 
  rw [hu] at h
  cases d <;> simp_all [isAgg, run_underlying hu]
class App (A B : List Ent) (C : outParam (List Ent)) : Prop where
 eq : A ++ B = C
instance App.nil (B : List Ent) : App [] B B := ⟨rfl⟩
instance App.cons (E : Ent) (A B C : List Ent) [h : App A B C] : App (E :: A) B (E :: C) := ⟨by rw [List.cons_append, h.eq]⟩
section
variable {P : Program} {n : Nat} {F : Fr} {A : World → Prop} {c : Ctx} {H R C : List Ent} {ty : TypeId} {x y z : Operand} {u v : Value} {T : Act → World → Prop}
theorem St.known (k : Nat) (b u : Bool) (hk : look F k = some (.bool b)) (hb : b = u) (h : St n ((k, .bool u) :: F) A T) : St n F A T := by
 subst hb
 cases b with
 | true => exact St.split k true hk (fun _ => h) (fun h => by cases h)
 | false => exact St.split k false hk (fun h => by cases h) (fun _ => h)
theorem Ev.pickt {p : Bool} (hx : Opd F x (.bool p)) (hp : p = true) (hy : Opd F y v) : Ev P n F A (.pick x y z) ty v := .of_run fun a w ha _ => by
 subst hp; simp only [execOp, hx.eval ha, hy.eval ha]; simp [asBool]
theorem Ev.pickf {p : Bool} (hx : Opd F x (.bool p)) (hp : p = false) (hz : Opd F z v) : Ev P n F A (.pick x y z) ty v := .of_run fun a w ha _ => by
 subst hp; simp only [execOp, hx.eval ha, hz.eval ha]; simp [asBool]
end
end Go.J

/-
  (YtolmidffiegkaaaDoorJ10)
  Slices of slices as data.
  Conditions: none; everything holds of any program.
-/
namespace Go.J
open Go
abbrev OneV := { v : Value // v.oneCell' = true }
def ptw {α : Type} (Rr : Rp α) (vs : List OneV) (xss : List (List α)) : Dat where
 f ρ := ∀ (i : Nat) (u : OneV) (l : List α), vs[i]? = some u → xss[i]? = some l → (sl Rr u.1 l).f ρ
 mono ρ ρ' h k i u l h1 h2 := (sl Rr u.1 l).mono _ _ h (k i u l h1 h2)
class InW (vs : List OneV) (H : List Ent) (α : outParam Type) (Rr : outParam (Rp α)) (xss : outParam (List (List α))) : Prop where
 mem : dat (ptw Rr vs xss) ∈ H
instance (priority := high) InW.here {α : Type} (vs : List OneV) (Rr : Rp α) (xss : List (List α)) (H : List Ent) : InW vs (dat (ptw Rr vs xss) :: H) α Rr xss := ⟨List.mem_cons_self ..⟩
instance InW.there {α : Type} (vs : List OneV) (Rr : Rp α) (xss : List (List α)) (E : Ent) (H : List Ent) [h : InW vs H α Rr xss] : InW vs (E :: H) α Rr xss := ⟨List.mem_cons_of_mem _ h.mem⟩
section
variable {n : Nat} {F : Fr} {c : Ctx} {H R : List Ent} {T : Act → World → Prop} {e : TypeId}
theorem St.ptw {α : Type} {Rr : Rp α} {vs : List OneV} {xss : List (List α)} (k : Nat) {u : OneV} {l : List α} [hd : InW vs H α Rr xss] (hu : vs[k]? = some u) (hl : xss[k]? = some l) (h : St n F (Mm c (dat (sl Rr u.1 l) :: H)) T) : St n F (Mm c H) T :=
 St.fact _ (fun _ _ hm => dat_ok.1 (hm.ents _ hd.mem) k u l hu hl) h
theorem sl_nil {α : Type} (Rr : Rp α) (ρ : Ro) : (sl Rr (.slice none 0 0) []).f ρ := ⟨none, 0, rfl, Nat.le_refl _, by unfold maxLen; omega, (fun x hx => by cases hx), .inl rfl⟩
end
end Go.J

/-
  (YtolmidffiegkaaaDoorJT)
  From a contract over data to a law's statement: how an argument that reads as data is a slice of data here; what a call leaves alone.
  Conditions: none; everything holds of any program.
-/
namespace Go.J
open Go Go.ChangeShapes Go.WideShapes Go.ChangeAt Go.RowKit Go.Deep
theorem FnG.below {dr : Prop} {P : Program} {f : FuncId} {args : Array Value} {ds : List Dat} {v : Value} {W : World} (h : FnG dr P f args (ds.map J.dat) fun u _ => u = v) (hd : ∀ d ∈ ds, d.f (J.all W)) : Calls P f args W fun e W' => e = .returned v ∧ Below W.heap.size W W' := by
 have st : Start (ds.map J.dat) (J.all W) W :=
  ⟨rfl, ⟨rfl, fun _ => Nat.le_refl _⟩, rfl, Nat.le_refl _, fun _ _ _ => rfl, fun _ _ h => h, Ro.le_refl _, fun _ _ _ => rfl, fun E hE => by
    obtain ⟨d, hd', rfl⟩ := List.mem_map.1 hE
    exact dat_ok.2 (hd d hd'),
   (fun E hE b hb => by
    obtain ⟨d, hd, rfl⟩ := List.mem_map.1 hE
    rw [dat_key] at hb; cases hb),
   by
    refine List.pairwise_map.2 (List.Pairwise.imp_of_mem (R := fun _ _ => True) ?_ (List.pairwise_of_forall fun _ _ => trivial))
    intro d d' _ _ _ b hb
    rw [dat_key] at hb; cases hb⟩
 refine (h W (J.all W) st).mono ?_
 rintro e w' ⟨u, H', rfl, rfl, hm⟩
 obtain ⟨ρ', hm⟩ := hm.out
 exact ⟨rfl, hm.os, hm.tape.1, hm.output, hm.size, fun k hk => hm.old k hk (owns_dats ds k)⟩
theorem FnVw.below {P : Program} {f : FuncId} {args : Array Value} {ds : List Dat} {v : Value} {W : World} (h : FnVw P f args ds v) (hd : ∀ d ∈ ds, d.f (J.all W)) : Calls P f args W fun e W' => e = .returned v ∧ Below W.heap.size W W' := FnG.below (dr := False) h hd
section
variable {H : Type} {enc : TypeId × Value → H} {P : Program} {W : World} {α : Type}
theorem blk_of_cell {a : Addr} {v : Value} (h : W.cell? a = some v) : a.spot = none ∧ ∃ C e fr, W.heap[a.block]? = some (.cells C e fr) ∧ C[a.off]? = some v := by
 refine ⟨World.cell?_spot h, ?_⟩
 unfold World.cell? at h
 split at h
 ·rename_i C e fr hb
  split at h
  ·cases h
  ·exact ⟨C, e, fr, hb, h⟩
 ·cases h
theorem rows_at {R : Rp α} : ∀ (xs : List α) (j : Nat) (u : Value), (rows R xs)[j]? = some u → ∃ i k x, xs[i]? = some x ∧ k < R.size ∧ j = i * R.size + k ∧ (R.cells x)[k]? = some u
 | [], j, u, h => by simp [rows] at h
 | x :: xs, j, u, h => by
  simp only [rows, List.flatMap_cons] at h
  by_cases hj : j < R.size
  ·rw [List.getElem?_append_left (by rw [R.len]; exact hj)] at h
   exact ⟨0, j, x, rfl, hj, by omega, h⟩
  ·rw [List.getElem?_append_right (by rw [R.len]; omega), R.len] at h
   obtain ⟨i, k, y, h1, h2, h3, h4⟩ := rows_at xs (j - R.size) u h
   exact ⟨i + 1, k, y, by simpa using h1, h2, by rw [Nat.add_mul, Nat.one_mul]; omega, h4⟩
abbrev wok (l : List Nat) : Bool := l.all (· ≤ reachBytes)
theorem wok_all {e : TypeId} : ∀ {ds : List (DataW H)} {x : DataW H}, wok (DataW.weightsAll P e ds) = true → x ∈ ds → wok (x.weights P e) = true
 | [], _, _, h => by cases h
 | d :: ds, x, h, hx => by
  simp only [wok, DataW.weightsAll, List.all_append, Bool.and_eq_true] at h
  rcases List.mem_cons.1 hx with rfl | hx
  ·exact h.1
  ·exact wok_all h.2 hx
theorem wok_each : ∀ {ts : List TypeId} {ds : List (DataW H)} {j : Nat} {t : TypeId} {d : DataW H}, wok (DataW.weightsEach P ts ds) = true → ts[j]? = some t → ds[j]? = some d → wok (d.weights P t) = true
 | [], _, _, _, _, _, h, _ => by simp at h
 | _ :: _, [], _, _, _, _, _, h => by simp at h
 | t :: ts, d :: ds, 0, _, _, h, h1, h2 => by
  simp only [List.getElem?_cons_zero, Option.some.injEq] at h1 h2
  subst h1 h2
  simp only [wok, DataW.weightsEach, List.all_append, Bool.and_eq_true] at h
  exact h.1
 | t :: ts, d :: ds, j + 1, _, _, h, h1, h2 => by
  simp only [wok, DataW.weightsEach, List.all_append, Bool.and_eq_true] at h
  exact wok_each (j := j) h.2 (by simpa using h1) (by simpa using h2)
theorem wok_slice {t e : TypeId} {es sp : List (DataW H)} (ht : P.underlying t = some (.slice e)) (h : wok ((DataW.slice es sp).weights P t) = true) {x : DataW H} (hx : x ∈ es ∨ x ∈ sp) : wok (x.weights P e) = true := by
 simp only [wok, DataW.weights, ht, List.all_cons, List.all_append, Bool.and_eq_true] at h
 rcases hx with hx | hx
 ·exact wok_all h.2.1 hx
 ·exact wok_all h.2.2 hx
theorem wf_i64 {n : Int} (h : (Lit.int .i64 n).wf = true) : i64ok n := by
 have e1 : IntKind.i64.min = -9223372036854775808 := rfl
 have e2 : IntKind.i64.max = 9223372036854775807 := rfl
 simpa [Lit.wf, e1, e2, i64ok] using h
theorem sv_of (s : ByteArray) : Value.string s = sv s.data.toList := by
 cases s; rfl
end
end Go.J

/-
  (YtolmidffiegkaaaDoorJ11)
  Regions that draw their order: an operation that is ready, looks at no memory and is free of the others may be taken as done at once.
  Conditions: none; everything holds of any program. No panic leaves the region's surroundings.
-/
namespace Go.J
open Go
def Es (P : Program) (n : Nat) (F : Fr) (op : Op) (ty : TypeId) (v : Value) : Prop := ∀ a w, Has n a F → (execOp a.eval (bare op ty)).run P w = .ok (.value v) w
def NP (Q : Exit → Act → World → Prop) : Prop := ∀ c a w, ¬ Q (.panic c) a w
theorem NP.then {K : Act → World → Prop} {Q : Exit → Act → World → Prop} (h : NP Q) : NP (Exit.then K Q) := fun c a w k => h c a w k
theorem NP.inBlock {id : Nat} {Q : Exit → Act → World → Prop} (h : NP Q) : NP (Exit.inBlock id Q) := fun c a w k => h c a w k
section
variable {P : Program} {ops : Array Oper} {Q : Exit → Act → World → Prop}
theorem wpOp_mono {j : Nat} {K K' : Act → World → Prop} {a : Act} {w : World} (h : ∀ a w, K a w → K' a w) (hh : wpOp P ops Q j K a w) : wpOp P ops Q j K' a w := by
 unfold wpOp at *
 split
 ·rename_i ho; simp only [ho] at hh; exact h _ _ hh
 ·rename_i o ho
  simp only [ho] at hh
  split
  ·rename_i hw; simp only [hw, if_true] at hh; exact hh.imp (Oper.wp_mono h) id
  ·rename_i hw; simp only [hw] at hh; exact h _ _ hh
end
section
variable {P : Program} {n : Nat} {F : Fr} {c : Ctx} {H : List Ent} {ty : TypeId} {x y : Operand} {v : Value} {t e : TypeId}
theorem NP.body {fn : Func} {R : Value → List Ent → World → Prop} : NP (bodyPost P fn fun e w' => ∃ v H', e = .returned v ∧ R v H' w') := fun c a w h => by
 obtain ⟨_, _, _, h1, _⟩ := h
 cases h1
theorem Es.extract {vs : List Value} {i : Nat} (hx : Opd F x (.tuple vs.toArray)) (hi : vs[i]? = some v) : Es P n F (.extract x i) ty v := fun a w ha => by
 simp [execOp, hx.eval ha, Instr.extract, hi]
theorem St.rowShape {T : Act → World → Prop} {size m : Nat} {cs : List Value} (v : Value) [hr : InR v H e size m cs] (hm : 0 < m) (h : ∀ b cap, v = .slice (some ⟨b, 0, none⟩) m cap → St n F (Mm c H) T) : St n F (Mm c H) T := by
 intro a w ha hw
 obtain ⟨ρ, hm'⟩ := hw.out
 rcases (hm'.row hr).2 with ⟨rfl, rfl⟩ | ⟨g, cap, cur, h1, _⟩
 ·omega
 ·exact h g cap h1 a w ha hw
end
theorem St.slot {n : Nat} {F : Fr} {A : World → Prop} {T : Act → World → Prop} {v : Value} (k : Nat) (v' : Value) (hk : look F k = some v) (h : v = v') (hT : St n ((k, v') :: F) A T) : St n F A T := by
 subst h
 refine fun a w ha hw => hT a w ⟨ha.size, ha.defers, fun t u hu => ?_⟩ hw
 simp only [look] at hu
 cases hb : Nat.beq t k with
 | true =>
  have e := Nat.eq_of_beq_eq_true hb
  subst e
  simp only [hb, cond_true, Option.some.injEq] at hu
  subst hu
  exact ha.slot _ _ hk
 | false =>
  simp only [hb, cond_false] at hu
  exact ha.slot _ _ hu
end Go.J

/-
  (YtolmidffiegkaaaDoorJ13)
  Regions that draw their order: operations that keep to what nobody touches may be taken as done at once, in whatever order; only those that change the memory are followed order by order.
  Conditions: none; everything holds of any program. No panic leaves the region's surroundings.
-/
namespace Go.J
open Go
section
variable {ι : Type} {P : Program} {C : ι → World → Prop} {ops : Array Oper} {Q : Exit → Act → World → Prop}
def WR (P : Program) (C : ι → World → Prop) (ops : Array Oper) (Q : Exit → Act → World → Prop) : Nat → Array Bool → Act → ι → Prop
 | 0, listed, a, r => Region.ready .any ops listed = [] ∧ ∀ w, C r w → Q .normal a w
 | fuel + 1, listed, a, r => (Region.ready .any ops listed = [] → ∀ w, C r w → Q .normal a w) ∧
   ∀ i ∈ Region.ready .any ops listed, ∀ w, C r w → wpOp P ops Q i (fun a' w' => ∃ r', C r' w' ∧ WR P C ops Q fuel (listed.setIfInBounds i true) a' r') a w
theorem WR.any : ∀ (fuel : Nat) (listed : Array Bool) (a : Act) (r : ι) (w : World), C r w → WR P C ops Q fuel listed a r → wpAny P .any ops Q fuel listed a w
 | 0, _, _, _, _, hw, h => ⟨h.1, h.2 _ hw⟩
 | fuel + 1, _, _, _, _, hw, h => ⟨fun h0 => h.1 h0 _ hw, fun i hi => wpOp_mono (fun a' w' ⟨r', hr, hk⟩ => WR.any fuel _ a' r' w' hr hk) (h.2 i hi _ hw)⟩
def YS (P : Program) (C : ι → World → Prop) (ops : Array Oper) (o : Oper) (v : Value) (a : Act) : Prop :=
 (Region.wanted o (yielded ops a.tmps) = true ∧ ∀ r w, C r w → o.quietAt P a (C r) w v) ∨ (Region.wanted o (yielded ops a.tmps) = false ∧ v = undef)
theorem YS.of_same {o : Oper} {v : Value} {a a' : Act} (hy : YS P C ops o v a) (he : execOp a'.eval o = execOp a.eval o)
  (hw : Region.wanted o (yielded ops a'.tmps) = Region.wanted o (yielded ops a.tmps)) : YS P C ops o v a' := by
 unfold YS Oper.quietAt at *
 rw [he, hw]
 exact hy
theorem YS.self {i : Nat} {o : Oper} {v : Value} {a : Act} (hi : ops[i]? = some o) (hy : YS P C ops o v a) {K : Act → World → Prop} {r : ι} {w : World} (hw : C r w) (h : ∀ w', C r w' → K (a.put o.dst v) w') : wpOp P ops Q i K a w := by
 have h1 : YieldsIn P ops (C r) o v a := hy.imp (fun ⟨h1, h2⟩ => ⟨h1, h2 r⟩) id
 exact wpOp_of_qOp hw (K := fun a' => a' = a.put o.dst v) (fun a' w' hw' e => by rw [e]; exact h w' hw') (h1.qOp hi rfl)
theorem wpOp_putS {j : Nat} {oi oj : Oper} {v : Value} (hj : ops[j]? = some oj) (hap : oi.apart ops oj = true)
  (hsi : ∀ cs b, oi.op ≠ .select cs b) (hsj : ∀ cs b, oj.op ≠ .select cs b) (hQ : NP Q) {K : Act → World → Prop} {a : Act} {w : World}
  (hy : YS P C ops oi v a) (h : wpOp P ops Q j K (a.put oi.dst v) w) :
  wpOp P ops Q j (fun a' w' => YS P C ops oi v a' ∧ K (a'.put oi.dst v) w') a w := by
 obtain ⟨h1, h2, h3⟩ := Oper.apart_spec hap
 have keep : ∀ u, YS P C ops oi v (a.put oj.dst u) := fun u => hy.of_same (execOp_put (ops := ops) oi hsi a oj.dst u h3) (wanted_put oi a oj.dst u h3)
 have put_defers : ∀ (d : Deferred) (u : Value), ({ a with defers := d :: a.defers } : Act).put oj.dst u = { (a.put oj.dst u) with defers := d :: a.defers } := fun d u => by
  cases oj.dst <;> rfl
 unfold wpOp at *
 simp only [hj] at *
 rw [wanted_put oj a oi.dst v h1] at h
 split
 ·rename_i hw
  simp only [hw, if_true] at h
  rcases h with h | ⟨h, hl⟩
  ·left
   unfold Oper.wp at *
   rw [execOp_put oj hsj a oi.dst v h1] at h
   generalize (execOp a.eval oj).run P w = r at *
   cases r with
   | ok nx w' =>
    cases nx <;> simp only [Oper.upon] at h ⊢
    case value u => exact ⟨keep u, by rw [← Act.put_comm a v u h2]; exact h⟩
    case skip => exact ⟨keep _, by rw [← Act.put_comm a v undef h2]; exact h⟩
    case defer d =>
     refine ⟨?_, ?_⟩
     ·rw [put_defers]; exact (keep undef).of_same rfl rfl
     ·have e : ({ (a.put oi.dst v) with defers := d :: (a.put oi.dst v).defers } : Act).put oj.dst undef = (({ a with defers := d :: a.defers } : Act).put oj.dst undef).put oi.dst v := by
       have := Act.put_comm ({ a with defers := d :: a.defers } : Act) v undef h2
       rw [← this]
       cases oi.dst <;> rfl
      rw [← e]; exact h
    case enter f args =>
     refine Calls.mono h fun e w'' he => ?_
     cases e with
     | returned u => exact ⟨keep u, by rw [← Act.put_comm a v u h2]; exact he⟩
     | panicked c => exact (hQ _ _ _ he).elim
     | outgrown => exact he
    case row rw_ args => exact Rows.mono h fun u w'' he => ⟨keep u, by rw [← Act.put_comm a v u h2]; exact he⟩
    all_goals exact h
   | halt x w' =>
    cases x <;> simp only [Oper.upon] at h ⊢
    all_goals first | exact (hQ _ _ _ h).elim | exact h
  ·right
   refine ⟨?_, hl⟩
   unfold Oper.asks at *
   rw [execOp_put oj hsj a oi.dst v h1] at h
   exact h
 ·rename_i hw
  simp only [hw] at h
  exact ⟨keep _, by rw [← Act.put_comm a v undef h2]; exact h⟩
theorem WR.first {i : Nat} {oi : Oper} {v : Value} (hi : ops[i]? = some oi) (hQ : NP Q) (hsel : ∀ (j : Nat) (o : Oper) cs b, ops[j]? = some o → o.op ≠ .select cs b) :
  ∀ (fuel : Nat) (listed : Array Bool) (a : Act) (r : ι),
   (∀ j oj, ops[j]? = some oj → j ≠ i → listed.getD j true = false → (∀ e ∈ oj.after, Region.binds .any e = true → e.on ≠ i) → oi.apart ops oj = true) →
   i ∈ Region.ready .any ops listed → YS P C ops oi v a →
   WR P C ops Q fuel (listed.setIfInBounds i true) (a.put oi.dst v) r → WR P C ops Q (fuel + 1) listed a r := by
 intro fuel
 induction fuel with
 | zero =>
  intro listed a r _ hr hy H
  refine ⟨fun h => (by rw [h] at hr; cases hr), fun j hj w hw => ?_⟩
  by_cases hji : j = i
  ·subst hji; exact hy.self hi hw fun w' hw' => ⟨r, hw', H⟩
  ·have := ready_mono hj hji
   rw [H.1] at this
   cases this
 | succ fuel ih =>
  intro listed a r hfree hr hy H
  refine ⟨fun h => (by rw [h] at hr; cases hr), fun j hj w hw => ?_⟩
  by_cases hji : j = i
  ·subst hji; exact hy.self hi hw fun w' hw' => ⟨r, hw', H⟩
  ·have h1 := H.2 j (ready_mono hj hji) w hw
   obtain ⟨hjun, oj, hoj, hall⟩ := mem_ready.1 hj
   have hnot : ∀ e ∈ oj.after, Region.binds .any e = true → e.on ≠ i := fun e he hb heq => by
    have h1 := hall e he hb
    have h0 := (mem_ready.1 hr).1
    rw [heq] at h1
    rcases Nat.lt_or_ge i listed.size with h' | h'
    ·simp [h'] at h0 h1; rw [h0] at h1; cases h1
    ·simp [Array.getElem?_eq_none h'] at h1
   have h2 := wpOp_putS hoj (hfree j oj hoj hji hjun hnot) (fun cs b => hsel i oi cs b hi) (fun cs b => hsel j oj cs b hoj) hQ hy h1
   have hfree' : ∀ k ok, ops[k]? = some ok → k ≠ i → (listed.setIfInBounds j true).getD k true = false →
     (∀ e ∈ ok.after, Region.binds .any e = true → e.on ≠ i) → oi.apart ops ok = true := fun k ok hk hki hun hno => by
    refine hfree k ok hk hki ?_ hno
    by_cases hjk : j = k
    ·subst hjk; exact hjun
    ·rw [getD_set_ne true hjk] at hun; exact hun
   refine wpOp_mono (fun a' w' h3 => ?_) h2
   obtain ⟨h3, r', h4, h5⟩ := h3
   refine ⟨r', h4, ih (listed.setIfInBounds j true) a' r' hfree' (ready_mono hr (Ne.symm hji)) h3 ?_⟩
   rw [Array.setIfInBounds_comm _ _ hji]
   exact h5
end
class TakeT (bs : List Nat) (H : List Ent) (r R : outParam (List Ent)) : Prop where
 perm : H.Perm (R ++ r)
instance TakeT.nil (H : List Ent) : TakeT [] H [] H := ⟨by simp⟩
instance TakeT.cons (b : Nat) (bs : List Nat) (H H1 r R : List Ent) (o : Obj) [h : TakeB b H o H1] [k : TakeT bs H1 r R] : TakeT (b :: bs) H (blk b o :: r) R :=
 ⟨(h.perm.trans (k.perm.cons _)).trans List.perm_middle.symm⟩
section app
instance (priority := low) InD.app (d : Dat) (L R : List Ent) [h : InD d L] : InD d (L ++ R) := ⟨List.mem_append_left _ h.mem⟩
instance (priority := low) InB.app (b : Nat) (o : Obj) (L R : List Ent) [h : InB b L o] : InB b (L ++ R) o := ⟨List.mem_append_left _ h.mem⟩
instance (priority := low) InS.app {α : Type} (v : Value) (Rr : Rp α) (xs : List α) (L R : List Ent) [h : InS v L α Rr xs] : InS v (L ++ R) α Rr xs := ⟨List.mem_append_left _ h.mem⟩
instance (priority := low) InCel.app (b : Nat) (v : Value) (L R : List Ent) [h : InCel b L v] : InCel b (L ++ R) v := ⟨List.mem_append_left _ h.mem⟩
instance (priority := low) InR.app (v : Value) (e : TypeId) (size n : Nat) (cs : List Value) (L R : List Ent) [h : InR v L e size n cs] : InR v (L ++ R) e size n cs := ⟨List.mem_append_left _ h.mem⟩
end app
def SW (P : Program) (ops : Array Oper) (Q : Exit → Act → World → Prop) (n : Nat) (F : Fr) (c : Ctx) (Fp r : List Ent) (f : Nat) (listed : Array Bool) : Prop :=
 ∀ a, Has n a F → WR P (fun R => Mm c (Fp ++ R)) ops Q f listed a r
def KW (P : Program) (ops : Array Oper) (Q : Exit → Act → World → Prop) (n : Nat) (c : Ctx) (Fp : List Ent) (f : Nat) (listed : Array Bool) (a : Act) (w : World) : Prop :=
 ∃ F r, Has n a F ∧ Mm c (Fp ++ r) w ∧ SW P ops Q n F c Fp r f listed
section
variable {P : Program} {ops : Array Oper} {Q : Exit → Act → World → Prop} {n : Nat} {F : Fr} {c : Ctx} {H Fp r r' C' : List Ent} {f : Nat} {listed : Array Bool}
theorem St.par {id : Nat} {l : List Oper} (bs : List Nat) [tk : TakeT bs H r Fp] (hm : P.follows .mixedOrders = true)
  (h : SW P l.toArray Q n F c Fp r l.length (Array.replicate l.length false)) : St n F (Mm c H) ((Code.region id l.toArray true).wp P Q) := by
 intro a w ha hw
 refine wp_region_any hm ?_
 have h1 := h a ha
 have h2 : Mm c (Fp ++ r) { w with drawn := w.drawn + 1 } := by
  obtain ⟨ρ, k⟩ := ((Mm.drawn c H) w hw).out
  exact Mm.mk (k.perm tk.perm)
 simpa using WR.any (C := fun R => Mm c (Fp ++ R)) l.length _ a r _ h2 h1
theorem SW.done (hr : Region.ready .any ops listed = []) [ap : App Fp r C'] (h : St n F (Mm c C') (Q .normal)) : SW P ops Q n F c Fp r f listed := by
 intro a ha
 have h1 : ∀ w, Mm c (Fp ++ r) w → Q .normal a w := fun w hw => h a w ha (by rw [← ap.eq]; exact hw)
 cases f with
 | zero => exact ⟨hr, h1⟩
 | succ f => exact ⟨fun _ => h1, fun i hi => by rw [hr] at hi; cases hi⟩
theorem SW.perm {F' : Fr} (hF : Sub F F') (hp : ∀ w, Mm c (Fp ++ r') w → Mm c (Fp ++ r) w) (h : SW P ops Q n F c Fp r (f + 1) listed) : SW P ops Q n F' c Fp r' (f + 1) listed := by
 intro a ha
 have h1 := h a (ha.sub hF)
 exact ⟨fun h0 w hw => h1.1 h0 w (hp w hw), fun i hi w hw => h1.2 i hi w (hp w hw)⟩
theorem SW.go [tk : TakeL Fp H r'] (h : SW P ops Q n F c Fp r' f listed) : St n F (Mm c H) (KW P ops Q n c Fp f listed) :=
 fun _ _ ha hw => ⟨F, r', ha, hw.take, h⟩
theorem SW.each [ap : App Fp r C'] (hne : Region.ready .any ops listed ≠ []) (h : ∀ i ∈ Region.ready .any ops listed, St n F (Mm c C') (wpOp P ops Q i (KW P ops Q n c Fp f (listed.setIfInBounds i true)))) : SW P ops Q n F c Fp r (f + 1) listed := by
 intro a ha
 refine ⟨fun h0 => absurd h0 hne, fun i hi w hw => ?_⟩
 refine wpOp_mono ?_ (h i hi a w ha (by rw [← ap.eq]; exact hw))
 rintro a' w' ⟨F', r', h1, h2, h3⟩
 exact ⟨r', h2, h3 a' h1⟩
theorem SW.turn1 {i : Nat} {o : Oper} [ap : App Fp r C'] (hr : Region.ready .any ops listed = [i]) (ho : ops[i]? = some o)
  (h : St n F (Mm c C') (wpList P ops (Exit.then (KW P ops Q n c Fp f (listed.setIfInBounds i true)) Q) [o])) : SW P ops Q n F c Fp r (f + 1) listed :=
 SW.each (by rw [hr]; simp) (by rw [hr]; intro k hk; rw [List.mem_singleton.1 hk]; exact St.one ho h)
theorem SW.turn2 {i j : Nat} {o o' : Oper} [ap : App Fp r C'] (hr : Region.ready .any ops listed = [i, j]) (ho : ops[i]? = some o) (ho' : ops[j]? = some o')
  (h : St n F (Mm c C') (wpList P ops (Exit.then (KW P ops Q n c Fp f (listed.setIfInBounds i true)) Q) [o]))
  (h' : St n F (Mm c C') (wpList P ops (Exit.then (KW P ops Q n c Fp f (listed.setIfInBounds j true)) Q) [o'])) : SW P ops Q n F c Fp r (f + 1) listed :=
 SW.each (by rw [hr]; simp) (by
  rw [hr]; intro k hk
  simp only [List.mem_cons, List.not_mem_nil, or_false] at hk
  rcases hk with rfl | rfl
  ·exact St.one ho h
  ·exact St.one ho' h')
theorem SW.turn3 {i j k : Nat} {o o' o'' : Oper} [ap : App Fp r C'] (hr : Region.ready .any ops listed = [i, j, k]) (ho : ops[i]? = some o) (ho' : ops[j]? = some o') (ho'' : ops[k]? = some o'')
  (h : St n F (Mm c C') (wpList P ops (Exit.then (KW P ops Q n c Fp f (listed.setIfInBounds i true)) Q) [o]))
  (h' : St n F (Mm c C') (wpList P ops (Exit.then (KW P ops Q n c Fp f (listed.setIfInBounds j true)) Q) [o']))
  (h'' : St n F (Mm c C') (wpList P ops (Exit.then (KW P ops Q n c Fp f (listed.setIfInBounds k true)) Q) [o''])) : SW P ops Q n F c Fp r (f + 1) listed :=
 SW.each (by rw [hr]; simp) (by
  rw [hr]; intro m hm
  simp only [List.mem_cons, List.not_mem_nil, or_false] at hm
  rcases hm with rfl | rfl | rfl
  ·exact St.one ho h
  ·exact St.one ho' h'
  ·exact St.one ho'' h'')
section
variable {d : Nat} {op : Op} {ty : TypeId} {pos : String} {after : Array Edge} {v : Value}
theorem SW.defer (i : Nat) (hQ : NP Q) (hs : Region.noSelect ops = true) (hi : ops[i]? = some { dst := some d, op := op, type := ty, pos := pos, after := after, guard := none }) (hev : ∀ R, Ev P n F (Mm c (Fp ++ R)) op ty v)
  (hr : ((Region.ready .any ops listed).contains i && Region.free .any ops listed i) = true) (hd : Nat.ble (d + 1) n = true)
  (h : SW P ops Q n ((d, v) :: F) c Fp r f (listed.setIfInBounds i true)) : SW P ops Q n F c Fp r (f + 1) listed := by
 intro a ha
 simp only [Bool.and_eq_true] at hr
 refine WR.first (v := v) hi hQ (Region.noSelect_spec hs) f listed a r (Region.free_spec hi hr.2) (by simpa using hr.1) ?_ (h _ (ha.put (Nat.le_of_ble_eq_true hd) v))
 exact .inl ⟨rfl, fun R w hw => (hev R).quietAt ha hw⟩
theorem SW.deferg (i : Nat) {j dj : Nat} {want : Bool} {u : Value} (cd : Bool) (hQ : NP Q) (hs : Region.noSelect ops = true) (hi : ops[i]? = some { dst := some d, op := op, type := ty, pos := pos, after := after, guard := some (j, want) })
  (hj : (ops[j]?).bind (·.dst) = some dj) (hl : look F dj = some u) (hu : (cd = true → u = .bool want) ∧ (cd = false → u = .bool (!want) ∨ u = undef))
  (hev : ∀ R, cd = true → Ev P n F (Mm c (Fp ++ R)) op ty v)
  (hr : ((Region.ready .any ops listed).contains i && Region.free .any ops listed i) = true) (hd : Nat.ble (d + 1) n = true)
  (h : SW P ops Q n ((d, gv cd v) :: F) c Fp r f (listed.setIfInBounds i true)) : SW P ops Q n F c Fp r (f + 1) listed := by
 intro a ha
 simp only [Bool.and_eq_true] at hr
 have hwt := wanted_of (l := ops) (o := { dst := some d, op := op, type := ty, pos := pos, after := after, guard := some (j, want) }) rfl hj (ha.slot _ _ hl) hu
 refine WR.first (v := gv cd v) hi hQ (Region.noSelect_spec hs) f listed a r (Region.free_spec hi hr.2) (by simpa using hr.1) ?_ (h _ (ha.put (Nat.le_of_ble_eq_true hd) _))
 cases hc : cd with
 | true =>
  rw [hc] at hwt
  rw [gv_true rfl]
  exact .inl ⟨hwt, fun R w hw => (hev R hc).quietAt ha hw⟩
 | false =>
  rw [hc] at hwt
  rw [gv_false rfl]
  exact .inr ⟨hwt, rfl⟩
end
section
variable {d : Nat} {op : Op} {ty : TypeId} {pos : String} {after : Array Edge} {dj : Nat} {j : Nat} (i : Nat) (v : Value)
theorem SW.gt {g : Bool} (hQ : NP Q) (hs : Region.noSelect ops = true) (hi : ops[i]? = some { dst := some d, op := op, type := ty, pos := pos, after := after, guard := some (j, true) }) (hj : (ops[j]?).bind (·.dst) = some dj) (hl : look F dj = some (.bool g))
  (hev : ∀ R, g = true → Ev P n F (Mm c (Fp ++ R)) op ty v) (hr : ((Region.ready .any ops listed).contains i && Region.free .any ops listed i) = true) (hd : Nat.ble (d + 1) n = true)
  (h : SW P ops Q n ((d, J.gv g v) :: F) c Fp r f (listed.setIfInBounds i true)) : SW P ops Q n F c Fp r (f + 1) listed := SW.deferg i g hQ hs hi hj hl (gu_t g) hev hr hd h
theorem SW.gf {g : Bool} (hQ : NP Q) (hs : Region.noSelect ops = true) (hi : ops[i]? = some { dst := some d, op := op, type := ty, pos := pos, after := after, guard := some (j, false) }) (hj : (ops[j]?).bind (·.dst) = some dj) (hl : look F dj = some (.bool g))
  (hev : ∀ R, (!g) = true → Ev P n F (Mm c (Fp ++ R)) op ty v) (hr : ((Region.ready .any ops listed).contains i && Region.free .any ops listed i) = true) (hd : Nat.ble (d + 1) n = true)
  (h : SW P ops Q n ((d, J.gv (!g) v) :: F) c Fp r f (listed.setIfInBounds i true)) : SW P ops Q n F c Fp r (f + 1) listed := SW.deferg i (!g) hQ hs hi hj hl (gu_f g) hev hr hd h
end
theorem SW.slot (k : Nat) {v : Value} (v' : Value) (hk : look F k = some v) (h : v = v') (hT : SW P ops Q n ((k, v') :: F) c Fp r f listed) : SW P ops Q n F c Fp r f listed := by
 subst h
 refine fun a ha => hT a ⟨ha.size, ha.defers, fun t u hu => ?_⟩
 simp only [look] at hu
 cases hb : Nat.beq t k with
 | true =>
  have e := Nat.eq_of_beq_eq_true hb
  subst e
  simp only [hb, cond_true, Option.some.injEq] at hu
  subst hu
  exact ha.slot _ _ hk
 | false =>
  simp only [hb, cond_false] at hu
  exact ha.slot _ _ hu
end
theorem Ev.field1 {P : Program} {n : Nat} {F : Fr} {A : World → Prop} {ty t : TypeId} {x : Operand} {xs : Array Value} {fs : Array Field} {fd : Field} {i : Nat} {v : Value} (hx : Opd F x (.agg xs)) (ht : P.underlying t = some (.struct fs)) (hf : fs[i]? = some fd)
  (hk : (match P.underlying fd.type with | some (.struct _) | some (.array _ _) | none => false | _ => true) = true) (hv : xs[fd.offset]? = some v) : Ev P n F A (.field t x i) ty v := .of_run fun a w ha _ => by
 simp [execOp, hx.eval ha, Instr.field, run_underlying ht, hf, asAgg, part_one hk hv]
theorem FnV.body5 {P : Program} {f : FuncId} {fn : Func} {cd : Code} {args : List Value} {u : Value} {d1 d2 d3 d4 d5 : Dat} (n : Nat)
  (hf : P.funcs[f]? = some fn) (hb : fn.body = some cd) (hn : fn.ntmps = n) (hargs : Nat.ble args.length n = true)
  (h : ∀ c : Ctx, St n (argF 0 args) (Mm c [dat d1, dat d2, dat d3, dat d4, dat d5]) (cd.wp P (bodyPost P fn fun e w' => ∃ v H', e = .returned v ∧ v = u ∧ Mm c H' w'))) : FnV P f args.toArray [d1, d2, d3, d4, d5] u := FnH.body n hf hb hn hargs h
end Go.J

namespace Go.J
open Go
theorem jbAll : (∀ b : Bool, (b && true) = b) ∧ (∀ b : Bool, (true && b) = b) ∧ (∀ (p : Prop) [Decidable p], (decide p = true) = p) ∧ (∀ (p : Prop) [Decidable p], (decide p = false) ↔ ¬ p) ∧ (∀ a b : Bool, ((a && b) = true) = (a = true ∧ b = true)) ∧ (∀ a b : Bool, ((a || b) = true) = (a = true ∨ b = true)) ∧
    (∀ a b : Bool, (a && b) = false ↔ a = false ∨ b = false) ∧ (∀ a b : Bool, (a || b) = false ↔ a = false ∧ b = false) ∧ (∀ b : Bool, ((!b) = true) = (b = false)) ∧ (∀ b : Bool, ((!b) = false) = (b = true)) ∧ (∀ {α : Type} [BEq α] [LawfulBEq α] (a b : α), (a == b) = true ↔ a = b) ∧ (∀ {α : Type} [BEq α] [LawfulBEq α] (a b : α), (a == b) = false ↔ a ≠ b) ∧
    (∀ a b : Int, ¬ a < b ↔ b ≤ a) ∧ (∀ a b : Int, ¬ a ≤ b ↔ b < a) :=
  ⟨fun _ => Bool.and_true _, fun _ => Bool.true_and _, fun _ _ => decide_eq_true_eq, fun _ _ => decide_eq_false_iff_not, Bool.and_eq_true, Bool.or_eq_true, fun _ _ => Bool.and_eq_false_iff, fun _ _ => Bool.or_eq_false_iff, fun _ => Bool.not_eq_true' _, fun _ => Bool.not_eq_false' _, fun _ _ => beq_iff_eq, fun _ _ => beq_eq_false_iff_ne, fun _ _ => Int.not_lt, fun _ _ => Int.not_le⟩
section
variable {P : Program} {n : Nat} {F : Fr} {A : World → Prop} {Q : Exit → Act → World → Prop} {ops : Array Oper} {d : Nat} {ty : TypeId} {pos : String} {after : Array Edge} {rest : List Oper} {x : Operand} {v : Value} {c : Ctx} {H : List Ent} {t e : TypeId}
theorem St.mv (h : St n ((d, v) :: F) A (wpList P ops Q rest)) (hx : Opd F x v := by exact .mk rfl) (hd : Nat.ble (d + 1) n = true := by rfl) : St n F A (wpList P ops Q ({ dst := some d, op := .move x, type := ty, pos := pos, after := after, guard := none } :: rest)) := St.ev _ (Ev.move hx) hd h
theorem St.asg (h : St n ((d, v) :: F) A (wpList P ops Q rest)) (hx : Opd F x v := by exact .mk rfl) (hd : Nat.ble (d + 1) n = true := by rfl) : St n F A (wpList P ops Q ({ dst := some d, op := .assign x, type := ty, pos := pos, after := after, guard := none } :: rest)) := St.ev _ (Ev.assign hx) hd h
theorem zip_of_range {α : Type} : ∀ (ps : List (Nat × α)) (k : Nat), ps.map (·.1) = List.range' k ps.length → ps = ((ps.map (·.2)).zipIdx k).map fun p => (p.2, p.1)
  | [], _, _ => rfl
  | (i, a) :: ps, k, h => by
    simp only [List.map_cons, List.length_cons, List.range'_succ, List.cons.injEq] at h
    simp only [List.map_cons, List.zipIdx_cons]
    rw [← zip_of_range ps (k + 1) h.2, h.1]
theorem St.bsl {size : Nat} {vs : List Value} {ps : List (Nat × Operand)} {zv : Value} (hp : ps.map (·.1) = List.range' 0 ps.length) (hx : Opds F (ps.map (·.2)) vs) (ht : P.underlying t = some (.slice e)) (hs : (P.info? e).map (·.size) = some size)
    (hz : (P.info? e).bind (·.zero) = some zv) (hpos : Nat.ble 1 size = true) (hlen : Nat.ble (vs.length * size) 16777216 = true) (hcs : ∀ u ∈ vs, u.cells.size = size) (hd : Nat.ble (d + 1) n = true)
    {m : Nat} (hm : m = vs.length)
    (h : ∀ b, St n ((d, .slice (some ⟨b, 0, none⟩) m m) :: F) (Mm c (row (.slice (some ⟨b, 0, none⟩) m m) e size m (vs.flatMap fun u => u.cells.toList) :: H)) (wpList P ops Q rest)) :
    St n F (Mm c H) (wpList P ops Q ({ dst := some d, op := .buildSlice t m ps.toArray, type := ty, pos := pos, after := after, guard := none } :: rest)) := St.buildSl (zip_of_range ps 0 hp) hx ht hs hz hpos hlen hcs hd hm h
end
end Go.J

/-
  (YtolmidffiegkaaaDoorJ21)
  Maps of the call's own: the block holds the entries in the order in which they came; what a look-up yields, what a store makes of it.
  Conditions: keys are whole numbers or texts; none is taken out.
-/
namespace Go.J
open Go
structure MK (κ : Type) where
  enc : κ → Value
  kd : TypeDesc
  same : ∀ a b : κ, ∀ [DecidableEq κ], Instr.sameNow kd (enc a) (enc b) = some (decide (a = b))
  key : ∀ a, MapKept.IsKey kd (enc a)
  bits : ∀ a, Instr.sameBits 10000 (enc a) (enc a) = true
def mkStr : MK Str := ⟨fun s => sv s, .string, fun a b _ => by
    simp only [Instr.sameNow, Option.some.injEq]; rw [Bool.eq_iff_iff, MapKept.bytes_beq]; simp, fun a => by simp [MapKept.IsKey], fun a => by simp only [Instr.sameBits]; exact (MapKept.bytes_beq _ _).2 rfl⟩
section assoc
variable {κ : Type} [DecidableEq κ]
def mget : List (κ × Value) → κ → Option Value
  | [], _ => none
  | p :: l, k => if k = p.1 then some p.2 else mget l k
def mset : List (κ × Value) → κ → Value → List (κ × Value)
  | [], k, v => [(k, v)]
  | p :: l, k, v => if k = p.1 then (k, v) :: l else p :: mset l k v
theorem mget_set (l : List (κ × Value)) (k : κ) (v : Value) (k' : κ) : mget (mset l k v) k' = if k' = k then some v else mget l k' := by
  induction l with
  | nil => simp [mset, mget]
  | cons p l ih =>
    unfold mset
    by_cases h : k = p.1
    · rw [if_pos h]
      simp only [mget]
      by_cases h2 : k' = k
      · rw [if_pos h2, if_pos h2]
      · rw [if_neg h2, if_neg h2, if_neg (by rw [← h]; exact h2)]
    · rw [if_neg h]
      simp only [mget, ih]
      by_cases h2 : k' = p.1
      · rw [if_pos h2, if_pos h2, if_neg (fun e => h (by rw [← e, h2]))]
      · rw [if_neg h2, if_neg h2]
end assoc
section
variable {κ : Type} [DecidableEq κ]
def ments (K : MK κ) : List (κ × Value) → Nat → List MapEntry
  | [], _ => []
  | p :: l, i => ⟨K.enc p.1, p.2, i⟩ :: ments K l (i + 1)
def mobj (K : MK κ) (l : List (κ × Value)) : Obj := .map (ments K l 0).toArray l.length
omit [DecidableEq κ] in
def mat : List (κ × Value) → κ → Nat → Option (Nat × Value)
  | [], _, _ => none
  | p :: l, k, i => if k = p.1 then some (i, p.2) else mat l k (i + 1)
theorem mat_get (l : List (κ × Value)) (k : κ) (i : Nat) : (mat l k i).map (·.2) = mget l k := by
  induction l generalizing i with
  | nil => rfl
  | cons p l ih => simp only [mat, mget]; split
                   · rfl
                   · exact ih _
theorem findNow_ments (K : MK κ) (k : κ) : ∀ (l : List (κ × Value)) (i c : Nat), Instr.findNow K.kd (K.enc k) (ments K l i) c = some (mat l k c)
  | [], i, c => rfl
  | p :: l, i, c => by
    simp only [ments, Instr.findNow, K.same k p.1, mat]
    by_cases h : k = p.1
    · simp [h]
    · simp only [h, decide_false, if_false]
      exact findNow_ments K k l _ _
omit [DecidableEq κ] in
theorem ments_snoc (K : MK κ) (k : κ) (v : Value) : ∀ (l : List (κ × Value)) (i : Nat), ments K (l ++ [(k, v)]) i = ments K l i ++ [⟨K.enc k, v, i + l.length⟩]
  | [], i => by simp [ments]
  | p :: l, i => by simp only [List.cons_append, ments, ments_snoc K k v l (i + 1), List.length_cons]; congr 4; omega
theorem mset_none {l : List (κ × Value)} {k : κ} {v : Value} {c : Nat} (h : mat l k c = none) : mset l k v = l ++ [(k, v)] := by
  induction l generalizing c with
  | nil => rfl
  | cons p l ih =>
    simp only [mat] at h
    split at h
    · cases h
    · rename_i h1; unfold mset; rw [if_neg h1, ih h]; rfl
theorem mset_some {K : MK κ} {k : κ} {v u : Value} : ∀ {l : List (κ × Value)} {c j : Nat} (i : Nat), mat l k c = some (j, u) → c ≤ j ∧ j - c < l.length ∧ ((ments K l i)[j - c]?).map (·.key) = some (K.enc k) ∧
    ments K (mset l k v) i = (ments K l i).modify (j - c) (fun e => { e with key := K.enc k, val := v }) ∧ (mset l k v).length = l.length
  | [], c, j, i, h => by cases h
  | p :: l, c, j, i, h => by
    simp only [mat] at h
    split at h
    · rename_i h1
      simp only [Option.some.injEq, Prod.mk.injEq] at h
      obtain ⟨rfl, rfl⟩ := h
      unfold mset
      rw [if_pos h1]
      subst h1
      simp [ments]
    · rename_i h1
      obtain ⟨q1, q2, q3, q4, q5⟩ := mset_some (K := K) (v := v) (i + 1) h
      have e : j - c = (j - (c + 1)) + 1 := by omega
      unfold mset
      rw [if_neg h1]
      refine ⟨by omega, by simp only [List.length_cons]; omega, ?_, ?_, by simp [q5]⟩
      · rw [e]; simpa [ments] using q3
      · rw [e]; simp only [ments, List.modify_succ_cons, q4]
variable {P : Program} {n : Nat} {F : Fr} {A : World → Prop} {c : Ctx} {H R : List Ent} {ty t kt et : TypeId} {x y z : Operand} {v : Value} {Q : Exit → Act → World → Prop} {ops : Array Oper} {rest : List Oper} {d : Nat} {pos : String} {after : Array Edge}
class InM (b : Nat) (H : List Ent) (κ : outParam Type) (K : outParam (MK κ)) (l : outParam (List (κ × Value))) : Prop where
  mem : blk b (mobj K l) ∈ H
instance (priority := high) InM.here {κ : Type} (b : Nat) (K : MK κ) (l : List (κ × Value)) (H : List Ent) : InM b (blk b (mobj K l) :: H) κ K l := ⟨List.mem_cons_self ..⟩
instance InM.there {κ : Type} (b : Nat) (K : MK κ) (l : List (κ × Value)) (E : Ent) (H : List Ent) [h : InM b H κ K l] : InM b (E :: H) κ K l := ⟨List.mem_cons_of_mem _ h.mem⟩
class TakeM (b : Nat) (H : List Ent) (κ : outParam Type) (K : outParam (MK κ)) (l : outParam (List (κ × Value))) (R : outParam (List Ent)) : Prop where
  perm : H.Perm (blk b (mobj K l) :: R)
instance (priority := high) TakeM.here {κ : Type} (b : Nat) (K : MK κ) (l : List (κ × Value)) (H : List Ent) : TakeM b (blk b (mobj K l) :: H) κ K l H := ⟨.refl _⟩
instance TakeM.there {κ : Type} (b : Nat) (K : MK κ) (l : List (κ × Value)) (E : Ent) (H R : List Ent) [h : TakeM b H κ K l R] : TakeM b (E :: H) κ K l (E :: R) := ⟨(h.perm.cons E).trans (.swap ..)⟩
omit [DecidableEq κ] in
theorem St.makeMap (K : MK κ) (hd : Nat.ble (d + 1) n = true) (h : ∀ b, St n ((d, .map (some b)) :: F) (Mm c (blk b (mobj K []) :: H)) (wpList P ops Q rest)) :
    St n F (Mm c H) (wpList P ops Q ({ dst := some d, op := .makeMap t none, type := ty, pos := pos, after := after, guard := none } :: rest)) := by
  refine St.do_ (K := fun u H' => ∃ b, u = .map (some b) ∧ H' = blk b (mobj K []) :: H) ?_ hd ?_
  · intro a w ρ ha hm
    refine ⟨.value (.map (some w.heap.size)), w.alloc (.map #[] 0), ρ, _, ?_, ⟨_, .inl rfl, _, rfl, rfl⟩, hm.alloc _⟩
    simp [execOp, RowKit.run_makeMap]
  · rintro _ _ ⟨b, rfl, rfl⟩
    exact h b
theorem run_zero {zv : Value} {w : World} (hz : (P.info? et).bind (·.zero) = some zv) : (zeroValue et).run P w = .ok zv w := by
  obtain ⟨i, hi, hzi⟩ := Option.bind_eq_some_iff.1 hz
  simp [zeroValue, typeInfo, hi, hzi]
theorem run_lookup (K : MK κ) {l : List (κ × Value)} {b : Nat} {k : κ} {zv : Value} {w : World} (ok : Bool) (ht : P.underlying t = some (.map kt et)) (hk : P.underlying kt = some K.kd) (hz : (P.info? et).bind (·.zero) = some zv) (hb : w.heap[b]? = some (mobj K l)) :
    (Instr.lookup t (.map (some b)) (K.enc k) ok).run P w = .ok (if ok then .tuple #[(mget l k).getD zv, .bool (mget l k).isSome] else (mget l k).getD zv) w := by
  have h1 := MapKept.run_findKey (w := w) hk (findNow_ments K k l 0 0)
  have h2 := run_zero (P := P) (w := w) hz
  have h3 := MapKept.run_getObj_map (P := P) hb
  have h4 := MapKept.run_checkKey (w := w) hk (K.key k) (ments K l 0).toArray.isEmpty 9999
  simp only [Instr.lookup, Sem.run_bind, run_underlying ht, Result.andThen_ok, h3, Sem.run_pure, h4, h1, ← mat_get l k 0]
  cases hm : mat l k 0 with
  | none => simp [h2]
  | some p => simp
theorem Ev.lookup (K : MK κ) {l : List (κ × Value)} {b : Nat} {k : κ} {zv : Value} [hb : InM b H κ K l] (hx : Opd F x (.map (some b))) (hy : Opd F y (K.enc k)) (ht : P.underlying t = some (.map kt et)) (hk : P.underlying kt = some K.kd) (hz : (P.info? et).bind (·.zero) = some zv) :
    Ev P n F (Mm c H) (.lookup t x y false) ty ((mget l k).getD zv) := .of_run fun a w ha hw => by
  obtain ⟨ρ, hm⟩ := hw.out
  have := run_lookup (P := P) K (k := k) false ht hk hz (blk_ok.1 (hm.ents _ hb.mem))
  simp [execOp, hx.eval ha, hy.eval ha, this]
theorem Ev.lookup2 (K : MK κ) {l : List (κ × Value)} {b : Nat} {k : κ} {zv : Value} [hb : InM b H κ K l] (hx : Opd F x (.map (some b))) (hy : Opd F y (K.enc k)) (ht : P.underlying t = some (.map kt et)) (hk : P.underlying kt = some K.kd) (hz : (P.info? et).bind (·.zero) = some zv) :
    Ev P n F (Mm c H) (.lookup t x y true) ty (.tuple #[(mget l k).getD zv, .bool (mget l k).isSome]) := .of_run fun a w ha hw => by
  obtain ⟨ρ, hm⟩ := hw.out
  have := run_lookup (P := P) K (k := k) true ht hk hz (blk_ok.1 (hm.ents _ hb.mem))
  simp [execOp, hx.eval ha, hy.eval ha, this]
omit [DecidableEq κ] in
theorem keyStays (K : MK κ) (k : κ) (w : World) : (Instr.keyThatStays (K.enc k) (K.enc k)).run P w = .ok (K.enc k) w := by
  simp [Instr.keyThatStays, K.bits k]
theorem run_mapUpdate (K : MK κ) {l : List (κ × Value)} {b : Nat} {k : κ} {w : World} (ht : P.underlying t = some (.map kt et)) (hk : P.underlying kt = some K.kd) (hb : w.heap[b]? = some (mobj K l)) :
    (Instr.mapUpdate t (.map (some b)) (K.enc k) v).run P w = .ok () { w with heap := w.heap.setIfInBounds b (mobj K (mset l k v)) } := by
  have h1 := MapKept.run_findKey (w := w) hk (findNow_ments K k l 0 0)
  have h3 := MapKept.run_getObj_map (P := P) hb
  have h4 := MapKept.run_checkKey (w := w) hk (K.key k) false 9999
  simp only [Instr.mapUpdate, Sem.run_bind, run_underlying ht, Result.andThen_ok, h3, h4, h1]
  cases hm : mat l k 0 with
  | none =>
    have e : mobj K (mset l k v) = .map ((ments K l 0).toArray.push { key := K.enc k, val := v, born := l.length }) (l.length + 1) := by
      rw [mset_none hm]
      simp [mobj, ments_snoc]
    rw [e]
    exact MapKept.run_setObj_map (P := P) _ hb
  | some p =>
    obtain ⟨j, u⟩ := p
    obtain ⟨_, q2, q3, q4, q5⟩ := mset_some (K := K) (v := v) 0 hm
    have e : mobj K (mset l k v) = .map ((ments K l 0).toArray.modify j fun e => { e with key := K.enc k, val := v }) l.length := by
      unfold mobj
      rw [q4, q5]
      simp
    rw [e]
    have q3' : (((ments K l 0).toArray[j]?).map (·.key)).getD (K.enc k) = K.enc k := by
      simp only [Nat.sub_zero] at q3
      simp [q3]
    simp only [q3', Sem.run_bind, keyStays, Result.andThen_ok]
    exact MapKept.run_setObj_map (P := P) _ hb
theorem St.mapUpdate (K : MK κ) {l : List (κ × Value)} {b : Nat} {k : κ} [tk : TakeM b H κ K l R] (hx : Opd F x (.map (some b))) (hy : Opd F y (K.enc k)) (hz : Opd F z v) (ht : P.underlying t = some (.map kt et)) (hk : P.underlying kt = some K.kd)
    (h : St n F (Mm c (blk b (mobj K (mset l k v)) :: R)) (wpList P ops Q rest)) :
    St n F (Mm c H) (wpList P ops Q ({ dst := none, op := .mapUpdate t x y z, type := ty, pos := pos, after := after, guard := none } :: rest)) := by
  refine St.do_none (K := fun u H' => H' = blk b (mobj K (mset l k v)) :: R) ?_ ?_
  · intro a w ρ ha hm
    have hm' := hm.perm tk.perm
    have hb := blk_ok.1 (hm'.ents _ (List.mem_cons_self ..))
    have hr := run_mapUpdate (P := P) K (k := k) (v := v) ht hk hb
    refine ⟨.skip, { w with heap := w.heap.setIfInBounds b (mobj K (mset l k v)) }, ρ, _, ?_, ⟨_, .inr ⟨rfl, rfl⟩, rfl⟩, ?_⟩
    · simp [execOp, hx.eval ha, hy.eval ha, hz.eval ha, hr]
    · have hs := MapKept.heap_set (o' := mobj K (mset l k v)) hb
      refine hm'.alter rfl ⟨rfl, Nat.le_refl _⟩ rfl (by simp) (fun j hj hne => ?_) (blk_ok.2 hs.1) (fun b' hb' => by rw [blk_key] at hb' ⊢; exact .inl hb')
      rw [blk_key] at hne
      exact hs.2 j (fun e => hne (by rw [e]))
  · rintro _ _ rfl
    exact h
omit [DecidableEq κ] in
end
end Go.J

/-
  (YtolmidffiegkaaaDoorJ22)
  Facts that say that there is something: opened and made; slices of slices in one fact.
  Conditions: none; everything holds of any program.
-/
namespace Go.J
open Go
section
variable {n : Nat} {F : Fr} {c : Ctx} {H R : List Ent} {T : Act → World → Prop}
theorem St.openD {ι : Sort _} (d : Dat) [hd : InD d H] (L : ι → List Dat) (h : ∀ ρ, d.f ρ → ∃ x, ∀ e ∈ L x, e.f ρ) (k : ∀ x, St n F (Mm c ((L x).map dat ++ H)) T) : St n F (Mm c H) T := by
 intro a w ha hw
 obtain ⟨ρ, hm⟩ := hw.out
 obtain ⟨x, hx⟩ := h ρ (dat_ok.1 (hm.ents _ hd.mem))
 exact k x a w ha (Mm.mk (hm.dats (L x) hx))
theorem St.mkD (d : Dat) (L : List Dat) [hd : InDs L H] (h : ∀ ρ, (∀ e ∈ L, e.f ρ) → d.f ρ) (k : St n F (Mm c (dat d :: H)) T) : St n F (Mm c H) T :=
 St.fact d (fun ρ w hm => h ρ fun e he => dat_ok.1 (hm.ents _ (hd.mem e he))) k
def nsl {α : Type} (Rr : Rp α) (v : Value) (l : List (List α)) : Dat := ⟨fun ρ => ∃ vs : List OneV, vs.length = l.length ∧ (sl valR v vs).f ρ ∧ (ptw Rr vs l).f ρ,
 fun ρ ρ' h ⟨vs, h1, h2, h3⟩ => ⟨vs, h1, (sl valR v vs).mono _ _ h h2, (ptw Rr vs l).mono _ _ h h3⟩⟩
class InNs (v : Value) (H : List Ent) (α : outParam Type) (R : outParam (Rp α)) (xs : outParam (List (List α))) : Prop where
 mem : dat (nsl R v xs) ∈ H
instance (priority := high) InNs.here {α : Type} (v : Value) (R : Rp α) (xs : List (List α)) (H : List Ent) : InNs v (dat (nsl R v xs) :: H) α R xs := ⟨List.mem_cons_self ..⟩
instance InNs.there {α : Type} (v : Value) (R : Rp α) (xs : List (List α)) (E : Ent) (H : List Ent) [h : InNs v H α R xs] : InNs v (E :: H) α R xs := ⟨List.mem_cons_of_mem _ h.mem⟩
theorem St.openNs {α : Type} {Rr : Rp α} {l : List (List α)} (v : Value) [hd : InNs v H α Rr l] (k : ∀ vs : List OneV, vs.length = l.length → St n F (Mm c (dat (sl valR v vs) :: dat (J.ptw Rr vs l) :: H)) T) : St n F (Mm c H) T := by
 intro a w ha hw
 obtain ⟨ρ, hm⟩ := hw.out
 obtain ⟨vs, h1, h2, h3⟩ := dat_ok.1 (hm.ents _ hd.mem)
 exact k vs h1 a w ha (Mm.mk ((hm.fact _ h3).fact _ h2))
theorem St.mkNs {α : Type} {Rr : Rp α} {l : List (List α)} (v : Value) {vs : List OneV} [h1 : InD (sl valR v vs) H] [h2 : InD (J.ptw Rr vs l) H] (hl : vs.length = l.length) (k : St n F (Mm c (dat (nsl Rr v l) :: H)) T) : St n F (Mm c H) T :=
 St.fact (nsl Rr v l) (fun ρ w hm => ⟨vs, hl, dat_ok.1 (hm.ents _ h1.mem), dat_ok.1 (hm.ents _ h2.mem)⟩) k
theorem ptw_snoc {α : Type} {Rr : Rp α} {vs : List OneV} {xss : List (List α)} {u : OneV} {x : List α} {ρ : Ro} (h : (J.ptw Rr vs xss).f ρ) (hu : (sl Rr u.1 x).f ρ) (hl : vs.length = xss.length) : (J.ptw Rr (vs ++ [u]) (xss ++ [x])).f ρ := by
 intro i u' l' h1 h2
 rcases Nat.lt_or_ge i vs.length with hi | hi
 ·rw [List.getElem?_append_left hi] at h1
  rw [List.getElem?_append_left (by omega)] at h2
  exact h i u' l' h1 h2
 ·rw [List.getElem?_append_right hi] at h1
  rw [List.getElem?_append_right (by omega)] at h2
  have hi0 : i - vs.length = 0 := by
   have := (List.getElem?_eq_some_iff.1 h1).1
   simp at this; omega
  rw [hi0] at h1
  rw [show i - xss.length = 0 by omega] at h2
  simp only [List.getElem?_cons_zero, Option.some.injEq] at h1 h2
  subst h1 h2
  exact hu
theorem St.ptwSnoc {α : Type} {Rr : Rp α} (vs : List OneV) (u : OneV) {x : List α} {xss : List (List α)} [h1 : InW vs H α Rr xss] [h2 : InS u.1 H α Rr x] (hl : vs.length = xss.length) (k : St n F (Mm c (dat (J.ptw Rr (vs ++ [u]) (xss ++ [x])) :: H)) T) : St n F (Mm c H) T :=
 St.fact _ (fun ρ w hm => ptw_snoc (dat_ok.1 (hm.ents _ h1.mem)) (dat_ok.1 (hm.ents _ h2.mem)) hl) k
theorem len_snoc {α : Type} {xs : List α} {x : α} : xs.length + 1 = (xs ++ [x]).length := by rw [List.length_append]; rfl
theorem St.ptwWf {α : Type} {Rr : Rp α} (vs : List OneV) {xss : List (List α)} [h1 : InW vs H α Rr xss] (hl : vs.length = xss.length) (k : (∀ xs ∈ xss, ∀ x ∈ xs, Rr.wf x) → St n F (Mm c H) T) : St n F (Mm c H) T := by
 intro a w ha hw
 obtain ⟨ρ, hm⟩ := hw.out
 refine k (fun xs hxs x hx => ?_) a w ha hw
 obtain ⟨i, hi, he⟩ := List.mem_iff_getElem.1 hxs
 have hv : i < vs.length := by omega
 obtain ⟨_, _, _, _, _, h4, _⟩ := dat_ok.1 (hm.ents _ h1.mem) i vs[i] xs (List.getElem?_eq_getElem hv) (by rw [List.getElem?_eq_getElem hi, he])
 exact h4 x hx
theorem St.ptwNil {α : Type} (Rr : Rp α) (k : St n F (Mm c (dat (J.ptw Rr [] []) :: H)) T) : St n F (Mm c H) T :=
 St.fact _ (fun _ _ _ => show (J.ptw Rr [] []).f _ from fun i u l hu => by simp at hu) k
theorem St.slNil {α : Type} (Rr : Rp α) (k : St n F (Mm c (dat (sl Rr (.slice none 0 0) []) :: H)) T) : St n F (Mm c H) T := St.fact _ (fun _ _ _ => sl_nil Rr _) k
end
section
variable {P : Program} {Q : Exit → Act → World → Prop} {n : Nat} {F : Fr} {c : Ctx} {H Fp : List Ent}
theorem SW.split {ops : Array Oper} {r : List Ent} {f : Nat} {listed : Array Bool} (k : Nat) (b : Bool) (hk : look F k = some (.bool b)) (ht : b = true → SW P ops Q n ((k, .bool true) :: F) c Fp r f listed) (hf : b = false → SW P ops Q n ((k, .bool false) :: F) c Fp r f listed) : SW P ops Q n F c Fp r f listed := by
 cases b with
 | true => exact SW.slot k (.bool true) hk rfl (ht rfl)
 | false => exact SW.slot k (.bool false) hk rfl (hf rfl)
theorem St.parL {id : Nat} {l : List Oper} (L : List Ent) [tk : TakeL L H Fp] (hm : P.follows .mixedOrders = true)
  (h : SW P l.toArray Q n F c Fp L l.length (Array.replicate l.length false)) : St n F (Mm c H) ((Code.region id l.toArray true).wp P Q) := by
 intro a w ha hw
 refine wp_region_any hm ?_
 have h1 := h a ha
 have h2 : Mm c (Fp ++ L) { w with drawn := w.drawn + 1 } := by
  obtain ⟨ρ, k⟩ := ((Mm.drawn c H) w hw).out
  exact Mm.mk (k.perm (tk.perm.trans List.perm_append_comm))
 simpa using WR.any (C := fun R => Mm c (Fp ++ R)) l.length _ a L _ h2 h1
end
end Go.J

/-
  (YtolmidffiegkaaaDoorJU)
  From a contract over data to a law's statement: slices of slices as arguments; the tables of runes as a row lists them.
  Conditions: none; everything holds of any program.
-/
namespace Go.J
open Go Go.ChangeShapes Go.WideShapes Go.ChangeAt Go.RowKit Go.Deep
section
variable {H : Type} {enc : TypeId × Value → H} {P : Program} {W : World} {α : Type}
end
theorem utf8Tabs_of {P : Program} {W : World} {g3 g4 T3 T4 T5 TS : Nat} {fs : Array Field} (n3 : P.globalNamed "unicode/utf8.first" = some g3) (n4 : P.globalNamed "unicode/utf8.acceptRanges" = some g4)
  (y3 : (P.globals[g3]?).map (·.type) = some T3) (y4 : (P.globals[g4]?).map (·.type) = some T4) (t3 : P.underlying T3 = some (.array 256 T5)) (t5 : P.underlying T5 = some (.int .u8)) (t4 : P.underlying T4 = some (.array 16 TS)) (ts : P.underlying TS = some (.struct fs))
  (hf : ∀ (i : Nat) (f : Field), fs[i]? = some f → P.underlying f.type = some (.int .u8) ∧ f.offset = i ∧ P.cellsOf f.type = 1) (hfs : fs.size = 2) (c5 : P.cellsOf T5 = 1) (c3 : P.cellsOf T3 = 256) (cs : P.cellsOf TS = 2)
  {l : List (String × DataW Unit)} (h : laidMetH P l W) (hp : (laidMetH P l W) = laidMet P l W) (m3 : ("unicode/utf8.first", Lib.firstData) ∈ l) (m4 : ("unicode/utf8.acceptRanges", Lib.acceptData) ∈ l) : Lib.Utf8Tabs g3 g4 W := by
 rw [hp] at h
 have h3 := Lib.laidMet.reads h m3
 have h4 := Lib.laidMet.reads h m4
 refine ⟨fun c hc => ?_, fun i hi => ?_⟩
 ·obtain ⟨g, t, cs, fuel, p, hg, hty, hvar, hd⟩ := h3
  obtain rfl := Option.some.inj (n3.symm.trans hg)
  obtain rfl := Option.some.inj (y3.symm.trans hty)
  have hcs := Lib.cells_of_tab t3 t5 c5 c3 hd
  have := World.var?_cell hg hvar c
  rw [this, ← Array.getElem?_toList, hcs]
  simp [Lib.firstTab, hc]
 ·obtain ⟨g, t, cells, fuel, p, hg, hty, hvar, hd⟩ := h4
  obtain rfl := Option.some.inj (n4.symm.trans hg)
  obtain rfl := Option.some.inj (y4.symm.trans hty)
  obtain ⟨fuel', d, q, hdi, he⟩ := Lib.array_elem t4 hd i hi
  simp only [List.getElem?_map, List.getElem?_range hi, Option.map_some, Option.some.injEq] at hdi
  subst hdi
  rw [cs] at he
  have hcs := Lib.ints_of_struct ts hf (by rw [cs, hfs]) he
  have e0 := congrArg (·[0]?) hcs
  have e1 := congrArg (·[1]?) hcs
  simp only [List.getElem?_take, List.getElem?_drop] at e0 e1
  constructor
  ·rw [World.var?_cell hg hvar (2 * i), ← Array.getElem?_toList]
   simpa [Nat.mul_comm] using e0
  ·rw [World.var?_cell hg hvar (2 * i + 1), ← Array.getElem?_toList]
   simpa [Nat.mul_comm] using e1
theorem cell_ext {W w : World} (h : ∀ (k : Nat) (o : Obj), W.heap[k]? = some o → w.heap[k]? = some o) {g o : Nat} {v : Value} (hc : W.cell? ⟨g, o, none⟩ = some v) : w.cell? ⟨g, o, none⟩ = some v := by
 obtain ⟨_, C, e, fr, hb, hv⟩ := blk_of_cell hc
 rw [cell?_of_blk (h _ _ hb)]; exact hv
theorem utf8Tabs_ext {W w : World} {g3 g4 : Nat} (h : Lib.Utf8Tabs g3 g4 W) (hw : ∀ (k : Nat) (o : Obj), W.heap[k]? = some o → w.heap[k]? = some o) : Lib.Utf8Tabs g3 g4 w :=
 ⟨fun c hc => cell_ext hw (h.1 c hc), fun i hi => ⟨cell_ext hw (h.2 i hi).1, cell_ext hw (h.2 i hi).2⟩⟩
end Go.J

/-
  (YtolmidffiegkaaaDoorJP)
  Plain facts on lists, for the laws: no program stands here.
  Conditions: none.
-/
namespace Go.J
open Go
section
variable {α : Type}
theorem all_take_succ {p : α → Bool} {s : List α} {k : Nat} {d : α} (h : (s.take k).all p = true) (hk : p (s.getD k d) = true) : (s.take (k + 1)).all p = true := by
 by_cases hl : k < s.length
 ·rw [List.take_succ_eq_append_getElem hl, List.all_append, h]
  rw [List.getD_eq_getElem?_getD, List.getElem?_eq_getElem hl] at hk
  simpa using hk
 ·rw [List.take_of_length_le (by omega)]; rwa [List.take_of_length_le (by omega)] at h
theorem all_false_of {p : α → Bool} {s : List α} {k : Nat} {d : α} (hk : k < s.length) (h : p (s.getD k d) = false) : s.all p = false := by
 rw [List.getD_eq_getElem?_getD, List.getElem?_eq_getElem hk] at h
 rw [List.all_eq_false]
 exact ⟨s[k], List.getElem_mem hk, by simpa using h⟩
theorem all_of_take {p : α → Bool} {s : List α} {k : Nat} (h : (s.take k).all p = true) (hk : s.length ≤ k) : s.all p = true := by rwa [List.take_of_length_le hk] at h
theorem some_of_lt {s : List α} {k : Nat} (h : k < s.length) : ∃ x, s[k]? = some x := ⟨_, List.getElem?_eq_getElem h⟩
theorem drop_of_some {s : List α} {k : Nat} {x : α} (h : s[k]? = some x) : s.drop k = x :: s.drop (k + 1) := by
 obtain ⟨hl, rfl⟩ := List.getElem?_eq_some_iff.1 h
 exact List.drop_eq_getElem_cons hl
theorem lt_of_some {s : List α} {k : Nat} {x : α} (h : s[k]? = some x) : k < s.length := (List.getElem?_eq_some_iff.1 h).1
theorem take_of_some {s : List α} {k : Nat} {x : α} (h : s[k]? = some x) : s.take (k + 1) = s.take k ++ [x] := by
 obtain ⟨hl, rfl⟩ := List.getElem?_eq_some_iff.1 h
 exact List.take_succ_eq_append_getElem hl
end
theorem be {a b : Bool} (h : a = b) : ret1 [Value.bool a] = .bool b := by rw [h]; rfl
theorem ie {a b : Int} (h : a = b) : ret1 [iv a] = iv b := by rw [h]; rfl
def fv (f : Int × Int) : Value := .agg #[iv f.1, iv f.2]
theorem fe {a b : Int} {f : Int × Int} (h : f = (a, b)) : ret1 [.agg #[iv a, iv b]] = fv f := by rw [h]; rfl
def low (c : UInt8) : Bool := decide ((97 : Int) ≤ c.toNat) && decide ((c.toNat : Int) ≤ 122)
def digit (c : UInt8) : Bool := decide ((48 : Int) ≤ c.toNat) && decide ((c.toNat : Int) ≤ 57)
def nameRest (c : UInt8) : Bool := low c || digit c || decide ((c.toNat : Int) = 95) || decide ((c.toNat : Int) = 45)
def isName (s : Str) : Bool := decide (0 < s.length) && decide (s.length ≤ 30) && low (s.getD 0 0) && s.all nameRest
theorem isName_len {s : Str} (h : isName s = true) : 0 < s.length ∧ s.length ≤ 30 := by
 simp only [isName, Bool.and_eq_true, decide_eq_true_eq] at h
 exact ⟨h.1.1.1, h.1.1.2⟩
theorem isName_bad1 {s : Str} (h : ((s.length : Int) = 0 ∨ 30 < (s.length : Int)) ∨ ((s.getD 0 0).toNat : Int) < 97 ∨ 122 < ((s.getD 0 0).toNat : Int)) : isName s = false := by
 simp only [isName, low, Bool.and_eq_false_iff, decide_eq_false_iff_not]
 left; omega
theorem isName_bad2 {s : Str} {k : Nat} (hk : k < s.length) (h : nameRest (s.getD k 0) = false) : isName s = false := by
 simp only [isName, all_false_of hk h, Bool.and_false]
theorem isName_good {s : Str} (h0 : 0 < s.length) (h1 : s.length ≤ 30) (h2 : low (s.getD 0 0) = true) (h : s.all nameRest = true) : isName s = true := by
 simp only [isName, h2, h, Bool.and_true, Bool.and_eq_true, decide_eq_true_eq]
 exact ⟨h0, h1⟩
end Go.J

/-
  (YtolmidffiegkaaaDoorFracP)
  Plain facts on wide numbers and on fractions in lowest terms: no program stands here.
  Conditions: none.
-/
namespace Go.J
open Go
abbrev uv (n : Nat) : Value := .int .u64 (n : Int)
end Go.J

/-
  (YtolmidffiegkaaaDoorJ12)
  The walks' laws for numbers of 64 bits without a sign: what an operation yields, as a natural number.
  Conditions: none; everything holds of any program.
-/
namespace Go.J
open Go
section
variable {P : Program} {n : Nat} {F : Fr} {A : World → Prop} {ty : TypeId} {x y : Operand} {t u : TypeId} {a b : Nat}
theorem wrapU {i : Int} : IntKind.u64.wrap i = i % 18446744073709551616 := by
 simp only [IntKind.wrap, IntKind.bits, IntKind.signed]; simp
theorem wrapU_nat (m : Nat) : IntKind.u64.wrap (m : Int) = ((m % 18446744073709551616 : Nat) : Int) := by rw [wrapU]; omega
theorem Ev.shrU {k : IntKind} {j : Int} (c m : Nat) (hm : 2 ^ c = m) (hx : Opd F x (uv a)) (hy : Opd F y (.int k j)) (h : j = c ∧ c ≤ 64) : Ev P n F A (.binOp .shr t x y u) ty (uv (a / m)) := by
 subst hm
 obtain ⟨rfl, hc⟩ := h
 have := Ev.shr (P := P) (n := n) (A := A) (ty := ty) (t := t) (u := u) hx hy (by omega)
 have e : (a : Int).fdiv (2 ^ (min (c : Int).toNat IntKind.u64.bits)) = ((a / 2 ^ c : Nat) : Int) := by
  have e1 : min (c : Int).toNat IntKind.u64.bits = c := by
   have : IntKind.u64.bits = 64 := rfl
   rw [this, Int.toNat_natCast]; omega
  rw [e1, Int.fdiv_eq_ediv_of_nonneg _ (Int.le_of_lt (Int.pow_pos (by omega)))]
  simp
 rw [e] at this
 exact this
theorem Ev.shlU {k : IntKind} {j : Int} (c m : Nat) (hm : 2 ^ c = m) (hx : Opd F x (uv a)) (hy : Opd F y (.int k j)) (h : j = c ∧ c ≤ 64) : Ev P n F A (.binOp .shl t x y u) ty (uv (a * m % 18446744073709551616)) := by
 subst hm
 obtain ⟨rfl, hc⟩ := h
 have := Ev.shlW (P := P) (n := n) (A := A) (ty := ty) (t := t) (u := u) hx hy (by omega)
 have e : (a : Int) * 2 ^ (min (c : Int).toNat IntKind.u64.bits) = ((a * 2 ^ c : Nat) : Int) := by
  have e1 : min (c : Int).toNat IntKind.u64.bits = c := by
   have : IntKind.u64.bits = 64 := rfl
   rw [this, Int.toNat_natCast]; omega
  rw [e1]; simp
 rw [e, wrapU_nat] at this
 exact this
theorem bits_and (c : Nat) (h : a < 18446744073709551616) (hc : c ≤ 64) : bits .and .u64 (a : Int) ((2 ^ c - 1 : Nat) : Int) = ((a % 2 ^ c : Nat) : Int) := by
 have hb : 2 ^ c - 1 < 2 ^ 64 := by have := Nat.pow_le_pow_right (n := 2) (by omega) hc; have := Nat.pow_pos (n := c) (a := 2) (by omega); omega
 have e : (BitVec.ofInt IntKind.u64.bits (a : Int) &&& BitVec.ofInt IntKind.u64.bits ((2 ^ c - 1 : Nat) : Int)).toNat = a % 2 ^ c := by
  show (BitVec.ofInt 64 (a : Int) &&& BitVec.ofInt 64 ((2 ^ c - 1 : Nat) : Int)).toNat = _
  rw [BitVec.toNat_and, BitVec.ofInt_natCast, BitVec.ofInt_natCast, BitVec.toNat_ofNat, BitVec.toNat_ofNat, Nat.mod_eq_of_lt h, Nat.mod_eq_of_lt hb, Nat.and_two_pow_sub_one_eq_mod]
 simp only [bits, e]
 rw [wrapU_nat, Nat.mod_eq_of_lt (Nat.lt_of_le_of_lt (Nat.mod_le a _) h)]
theorem Ev.andU (c m : Nat) (hm : 2 ^ c = m) (hx : Opd F x (uv a)) (hy : Opd F y (uv b)) (h : a < 18446744073709551616 ∧ b = 2 ^ c - 1 ∧ c ≤ 64) : Ev P n F A (.binOp .and t x y u) ty (uv (a % m)) := .of_run fun a' w ha _ => by
 subst hm
 obtain ⟨h1, rfl, h3⟩ := h
 simp only [execOp, hx.eval ha, hy.eval ha]; simp only [go_sem, bits_and c h1 h3]; simp
theorem Ev.convIN (m : Nat) {i : Int} {s d : TypeId} (hx : Opd F x (iv i)) (hs : (P.underlying s).isSome = true) (hd : P.underlying d = some (.int .u64)) (h : i = m ∧ m < 18446744073709551616) : Ev P n F A (.convert s d x) ty (uv m) := by
 obtain ⟨rfl, h⟩ := h
 have := Ev.convI (P := P) (n := n) (A := A) (ty := ty) hx hs hd
 rwa [wrapU_nat, Nat.mod_eq_of_lt h] at this
theorem Ev.convUI {k : IntKind} {s d : TypeId} (hx : Opd F x (.int k (a : Int))) (hs : (P.underlying s).isSome = true) (hd : P.underlying d = some (.int .i64)) (h : a < 9223372036854775808) : Ev P n F A (.convert s d x) ty (iv a) := by
 have := Ev.convI (P := P) (n := n) (A := A) (ty := ty) hx hs hd
 rwa [wrap_ok (by omega)] at this
end
section
variable {P : Program} {n : Nat} {F : Fr} {A : World → Prop} {ty : TypeId} {x y : Operand} {t : TypeId}
end
section
variable {P : Program} {n : Nat} {F : Fr} {A : World → Prop} {c : Ctx} {H R : List Ent} {T : Act → World → Prop} {v v' : Value}
theorem St.blkEq (b : Nat) {e : TypeId} {L : List Value} (L' : List Value) [tk : TakeB b H (.cells L.toArray e (0, 0)) R] (h : L = L') (hT : St n F (Mm c (blk b (.cells L'.toArray e (0, 0)) :: R)) T) : St n F (Mm c H) T := by
 subst h
 refine hT.weak fun w hw => ?_
 obtain ⟨ρ, hm⟩ := hw.out
 exact Mm.mk (hm.perm tk.perm)
end
end Go.J

/-
  (YtolmidffiegkaaaDoorJ20)
  Arrays in blocks of the call's own, errors against nil, a byte as a text; contracts of the library's functions over what its variables hold.
  Conditions: none; everything holds of any program.
-/
namespace Go.J
open Go Go.RowKit
section
variable {P : Program} {n : Nat} {F : Fr} {A : World → Prop} {c : Ctx} {H R : List Ent} {ty t e : TypeId} {x y : Operand} {Q : Exit → Act → World → Prop} {ops : Array Oper} {rest : List Oper} {pos : String} {after : Array Edge}
end
def Dat.of (X : World → Prop) : Dat := ⟨fun ρ => ∀ w, (∀ k o, ρ k = some o → w.heap[k]? = some o) → X w, fun _ _ h k w hw => k w fun b o hb => hw b o (h b o hb)⟩
theorem FnW.of_calls {P : Program} {f : FuncId} {args : Array Value} {X : World → Prop} {post : Value → List Ent → Prop} (h : ∀ w, X w → Calls P f args w fun e w' => ∃ v, e = .returned v ∧ post v [] ∧ Below w.heap.size w w') :
  FnW P f args ([Dat.of X].map dat) post := by
 intro w ρ hs
 have hx : X w := dat_ok.1 (hs.ents (dat (Dat.of X)) (List.mem_cons_self ..)) w hs.fits
 refine (h w hx).mono ?_
 rintro e w' ⟨v, rfl, hp, hb⟩
 refine ⟨v, [], rfl, hp, Mm.mk (ρ := ρ) ⟨hb.os, ⟨hb.tape, fun h => h.elim⟩, hb.output, hb.size, fun k hk _ => hb.block k hk, fun k o hk => ?_, Ro.le_refl _, fun _ _ _ => rfl, fun _ h => by simp at h, fun _ h => by simp at h, .nil⟩⟩
 rw [hb.block k (hs.rlt hk)]
 exact hs.fits k o hk
theorem FnVw.of_calls {P : Program} {f : FuncId} {args : Array Value} {X : World → Prop} {v : Value} (h : ∀ w, X w → Calls P f args w fun e w' => e = .returned v ∧ Below w.heap.size w w') : FnVw P f args [Dat.of X] v :=
 FnW.of_calls fun w hw => (h w hw).mono fun _ _ ⟨h1, h2⟩ => ⟨v, h1, rfl, h2⟩
end Go.J

/-
  (YtolmidffiegkaaaDoorJW)
  What a row lists of a table of bytes, and of a slice of texts, as facts on the memory.
  Conditions: none; everything holds of any program.
-/
namespace Go.J
open Go Go.ChangeShapes Go.WideShapes Go.ChangeAt Go.RowKit Go.Deep
section
variable {H : Type} {enc : TypeId × Value → H} {P : Program} {W : World}
theorem sl_strs {t e : TypeId} {L : List Str} {cs0 : List Value} {p : List MemPlace} {fuel base : Nat} {sp : Nat → Bool} {held : Bool} (ht : P.underlying t = some (.slice e)) (he : P.underlying e = some .string) (hc : P.cellsOf e = 1) (hne : L ≠ []) (hL : ∀ s ∈ L, s.length ≤ 140737488351232)
  (hf : DataW.trod enc P W base sp held fuel t cs0 = some (.slice (L.map fun s => .lit (.string s)) [], p)) : ∃ v : OneV, cs0 = [v.1] ∧ (sl strR v.1 L).f (J.all W) := by
 obtain ⟨a, cap, hcs, hl, hel⟩ := open_row ht hc hf
 rw [List.length_map] at hcs hl
 have hm : cap ≤ maxLen := by
  rcases DataW.trod_slice ht hf with ⟨_, hx⟩ | ⟨a', len, cap', elems, rest, n, _, hcs', _, _, _, hm, _⟩
  ·simp at hx
  ·rw [hcs] at hcs'
   simp only [List.cons.injEq, Value.slice.injEq, and_true] at hcs'
   rw [hcs'.2.2]; exact hm
 have each : ∀ i s, L[i]? = some s → W.cell? (a.add i) = some (sv s) := fun i s hs => by
  obtain ⟨v, n, q, h1, h2⟩ := hel i (.lit (.string s)) (by rw [List.getElem?_map, hs]; rfl)
  obtain ⟨b, hb, hy, _⟩ := DataW.trod_string he h2
  cases hb
  have hy := (Prod.mk.inj hy).1
  simp only [DataW.lit.injEq, Lit.string.injEq] at hy
  rw [h1, sv_of, hy]
 have hpos : 0 < L.length := List.length_pos_iff.2 hne
 obtain ⟨b, off, spot⟩ := a
 obtain ⟨s0, hs0⟩ : ∃ s, L[0]? = some s := ⟨_, List.getElem?_eq_getElem hpos⟩
 obtain ⟨hspot, C, e', fr, hb, _⟩ := blk_of_cell (each 0 s0 hs0)
 have hspot : spot = none := by simpa [Addr.add] using hspot
 subst hspot
 have hb : W.heap[b]? = some (.cells C e' fr) := by simpa [Addr.add] using hb
 refine ⟨⟨.slice (some ⟨b, off, none⟩) L.length cap, rfl⟩, hcs, ⟨_, cap, rfl, hl, hm, hL, .inr ⟨b, off, C, e', fr, rfl, hb, fun j u hj => ?_⟩⟩⟩
 obtain ⟨i, k, x, h1, h2, h3, h4⟩ := rows_at _ _ _ hj
 have hk : k = 0 := by have : strR.size = 1 := rfl; omega
 subst hk
 have hu : u = sv x := by simpa [strR] using h4.symm
 have hji : j = i := by have : strR.size = 1 := rfl; rw [this] at h3; omega
 subst hu hji
 obtain ⟨_, C', e'', fr', hb', hcell⟩ := blk_of_cell (each j x h1)
 have hb' : W.heap[b]? = some (.cells C' e'' fr') := by
  by_cases h0 : j = 0
  ·subst h0; simpa [Addr.add] using hb'
  ·simpa [Addr.add, h0] using hb'
 have hcell : C'[off + j]? = some (sv x) := by
  by_cases h0 : j = 0
  ·subst h0; simpa [Addr.add] using hcell
  ·simpa [Addr.add, h0] using hcell
 rw [hb] at hb'
 simp only [Option.some.injEq, Obj.cells.injEq] at hb'
 rw [hb'.1]; exact hcell
theorem strs_of {nm : String} {g T e : Nat} {L : List Str} (hg : P.globalNamed nm = some g) (hy : (P.globals[g]?).map (·.type) = some T) (ht : P.underlying T = some (.slice e)) (he : P.underlying e = some .string) (hc : P.cellsOf e = 1) (hne : L ≠ []) (hL : ∀ s ∈ L, s.length ≤ 140737488351232)
  (h : Lib.VarReads P W nm (.slice (L.map fun s => .lit (.string s)) [])) : ∃ u : OneV, (cel g u.1).f (J.all W) ∧ (sl strR u.1 L).f (J.all W) := by
 obtain ⟨g', t, cs, fuel, p, hg', hty, hvar, hd⟩ := h
 obtain rfl := Option.some.inj (hg.symm.trans hg')
 obtain rfl := Option.some.inj (hy.symm.trans hty)
 obtain ⟨u, hcs, hs⟩ := sl_strs ht he hc hne hL hd
 refine ⟨u, ?_, hs⟩
 have h0 := World.var?_cell hg hvar 0
 rw [← Array.getElem?_toList, hcs] at h0
 obtain ⟨_, C, e', fr, hb, hv⟩ := blk_of_cell h0
 exact ⟨C, e', fr, hb, hv⟩
theorem bytes_of {nm : String} {g T e n : Nat} {L : List Nat} (hg : P.globalNamed nm = some g) (hy : (P.globals[g]?).map (·.type) = some T) (ht : P.underlying T = some (.array n e)) (he : P.underlying e = some (.int .u8)) (hc : P.cellsOf e = 1) (hcT : P.cellsOf T = n)
  (h : Lib.VarReads P W nm (Lib.tabData .u8 (L.map fun x : Nat => (x : Int)))) : ∀ w : World, (∀ k o, J.all W k = some o → w.heap[k]? = some o) → ∀ j, j < L.length → w.cell? ⟨g, j, none⟩ = some (.int .u8 (L.getD j 0)) := by
 obtain ⟨g', t, cs, fuel, p, hg', hty, hvar, hd⟩ := h
 obtain rfl := Option.some.inj (hg.symm.trans hg')
 obtain rfl := Option.some.inj (hy.symm.trans hty)
 have hcs := Lib.cells_of_tab ht he hc hcT hd
 intro w hw j hj
 have h0 := World.var?_cell hg hvar j
 rw [← Array.getElem?_toList, hcs] at h0
 have h0 : W.cell? ⟨g, j, none⟩ = some (.int .u8 (L.getD j 0)) := by
  rw [h0, List.getElem?_map, List.getElem?_map, List.getElem?_eq_getElem hj, List.getD_eq_getElem?_getD, List.getElem?_eq_getElem hj]; rfl
 obtain ⟨_, C, e', fr, hb, hv⟩ := blk_of_cell h0
 rw [cell?_of_blk (hw _ _ hb)]; exact hv
end
end Go.J

/-
  (YtolmidffiegkaaaDoorWordP)
  Words: read byte by byte, and by the decoder of runes: plain facts, no program stands here.
  Conditions: none.
-/
namespace Go.J
open Go Go.Lib
def seps : Str := [32, 9, 10, 40, 41, 91, 93, 44, 59]
def isSep (b : UInt8) : Bool := seps.contains b
theorem isSep_iff {b : UInt8} : isSep b = true ↔ b.toNat = 32 ∨ b.toNat = 9 ∨ b.toNat = 10 ∨ b.toNat = 40 ∨ b.toNat = 41 ∨ b.toNat = 91 ∨ b.toNat = 93 ∨ b.toNat = 44 ∨ b.toNat = 59 := by
 unfold isSep seps
 simp only [List.contains_cons, List.contains_nil, Bool.or_false, Bool.or_eq_true, beq_iff_eq, ← UInt8.toNat_inj]
 exact Iff.rfl
theorem isSep_high {b : UInt8} (h : 128 ≤ b.toNat) : isSep b = false := by
 cases hb : isSep b with
 | false => rfl
 | true => have := isSep_iff.1 hb; omega
def more (b : Nat) : Nat := if 194 ≤ b ∧ b ≤ 223 then 1 else if 224 ≤ b ∧ b ≤ 239 then 2 else if 240 ≤ b ∧ b ≤ 244 then 3 else 0
def loB (b : Nat) : Nat := if b = 224 then 160 else if b = 240 then 144 else 128
def hiB (b : Nat) : Nat := if b = 237 then 159 else if b = 244 then 143 else 191
def bt (s : Str) (i : Nat) : Nat := (s.getD i 0).toNat
def badLead (b : Nat) : Bool := decide (128 ≤ b ∧ more b = 0)
def contOk (s : Str) (p k : Nat) : Bool := decide (p + 1 + k < s.length ∧ (if k = 0 then loB (bt s p) else 128) ≤ bt s (p + 1 + k) ∧ bt s (p + 1 + k) ≤ (if k = 0 then hiB (bt s p) else 191))
def wst (s : Str) (p : Nat) : Option Nat :=
 if isSep (s.getD p 0) then none else if badLead (bt s p) then none else if (List.range (more (bt s p))).all (contOk s p) then some (more (bt s p) + 1) else none
theorem bt_lt (s : Str) (i : Nat) : bt s i < 256 := (s.getD i 0).toNat_lt
theorem decode_bt (s : Str) (p : Nat) : decodeL (s.drop p) = decodeN (s.length - p) (bt s p) (bt s (p + 1)) (bt s (p + 2)) (bt s (p + 3)) := by
 rw [decodeL_N, List.length_drop, getD_dropU, getD_dropU, getD_dropU, getD_dropU, Nat.add_zero]
 rfl
def C2 (n b0 b1 : Nat) : Prop := 194 ≤ b0 ∧ b0 ≤ 223 ∧ 1 < n ∧ 128 ≤ b1 ∧ b1 ≤ 191
def C3 (n b0 b1 b2 : Nat) : Prop := 224 ≤ b0 ∧ b0 ≤ 239 ∧ 1 < n ∧ 128 ≤ b1 ∧ b1 ≤ 191 ∧ (b0 = 224 → 160 ≤ b1) ∧ (b0 = 237 → b1 ≤ 159) ∧ 2 < n ∧ 128 ≤ b2 ∧ b2 ≤ 191
def C4 (n b0 b1 b2 b3 : Nat) : Prop := 240 ≤ b0 ∧ b0 ≤ 244 ∧ 1 < n ∧ 128 ≤ b1 ∧ b1 ≤ 191 ∧ (b0 = 240 → 144 ≤ b1) ∧ (b0 = 244 → b1 ≤ 143) ∧ 2 < n ∧ 128 ≤ b2 ∧ b2 ≤ 191 ∧ 3 < n ∧ 128 ≤ b3 ∧ b3 ≤ 191
theorem decN_spec {n b0 b1 b2 b3 : Nat} (h0 : b0 < 256) (h1 : b1 < 256) (h2 : b2 < 256) (h3 : b3 < 256) :
  (b0 < 128 ∧ decodeN n b0 b1 b2 b3 = (b0, 1)) ∨ (128 ≤ b0 ∧ ¬ C2 n b0 b1 ∧ ¬ C3 n b0 b1 b2 ∧ ¬ C4 n b0 b1 b2 b3 ∧ decodeN n b0 b1 b2 b3 = (65533, 1)) ∨
  (C2 n b0 b1 ∧ ∃ r, 128 ≤ r ∧ decodeN n b0 b1 b2 b3 = (r, 2)) ∨ (C3 n b0 b1 b2 ∧ ∃ r, 128 ≤ r ∧ decodeN n b0 b1 b2 b3 = (r, 3)) ∨ (C4 n b0 b1 b2 b3 ∧ ∃ r, 128 ≤ r ∧ decodeN n b0 b1 b2 b3 = (r, 4)) := by
 unfold C2 C3 C4 decodeN
 by_cases q0 : b0 < 128
 ·rw [if_pos q0]; exact .inl ⟨q0, rfl⟩
 ·rw [if_neg q0]
  right
  by_cases q1 : b0 / 32 = 6 ∧ (1 < n ∧ b1 / 64 = 2)
  ·rw [if_pos q1]
   by_cases q2 : b0 % 32 * 64 + b1 % 64 ≥ 128
   ·rw [if_pos q2]; exact .inr (.inl ⟨by omega, _, q2, rfl⟩)
   ·rw [if_neg q2]; exact .inl ⟨by omega, by omega, by omega, by omega, rfl⟩
  ·rw [if_neg q1]
   by_cases q3 : b0 / 16 = 14 ∧ (1 < n ∧ b1 / 64 = 2) ∧ (2 < n ∧ b2 / 64 = 2)
   ·rw [if_pos q3]
    by_cases q4 : b0 % 16 * 4096 + b1 % 64 * 64 + b2 % 64 ≥ 2048 ∧ (b0 % 16 * 4096 + b1 % 64 * 64 + b2 % 64 < 55296 ∨ (57344 ≤ b0 % 16 * 4096 + b1 % 64 * 64 + b2 % 64 ∧ b0 % 16 * 4096 + b1 % 64 * 64 + b2 % 64 ≤ 1114111))
    ·rw [if_pos q4]; exact .inr (.inr (.inl ⟨by omega, _, by omega, rfl⟩))
    ·rw [if_neg q4]; exact .inl ⟨by omega, by omega, by omega, by omega, rfl⟩
   ·rw [if_neg q3]
    by_cases q5 : b0 / 8 = 30 ∧ (1 < n ∧ b1 / 64 = 2) ∧ (2 < n ∧ b2 / 64 = 2) ∧ (3 < n ∧ b3 / 64 = 2)
    ·rw [if_pos q5]
     by_cases q6 : b0 % 8 * 262144 + b1 % 64 * 4096 + b2 % 64 * 64 + b3 % 64 ≥ 65536 ∧ (b0 % 8 * 262144 + b1 % 64 * 4096 + b2 % 64 * 64 + b3 % 64 < 55296 ∨ (57344 ≤ b0 % 8 * 262144 + b1 % 64 * 4096 + b2 % 64 * 64 + b3 % 64 ∧ b0 % 8 * 262144 + b1 % 64 * 4096 + b2 % 64 * 64 + b3 % 64 ≤ 1114111))
     ·rw [if_pos q6]; exact .inr (.inr (.inr ⟨by omega, _, by omega, rfl⟩))
     ·rw [if_neg q6]; exact .inl ⟨by omega, by omega, by omega, by omega, rfl⟩
    ·rw [if_neg q5]; exact .inl ⟨by omega, by omega, by omega, by omega, rfl⟩
theorem loB_spec (b : Nat) : (b = 224 ∧ loB b = 160) ∨ (b = 240 ∧ loB b = 144) ∨ (b ≠ 224 ∧ b ≠ 240 ∧ loB b = 128) := by
 unfold loB; split
 ·exact .inl ⟨by assumption, rfl⟩
 ·split
  ·exact .inr (.inl ⟨by assumption, rfl⟩)
  ·exact .inr (.inr ⟨by assumption, by assumption, rfl⟩)
theorem hiB_spec (b : Nat) : (b = 237 ∧ hiB b = 159) ∨ (b = 244 ∧ hiB b = 143) ∨ (b ≠ 237 ∧ b ≠ 244 ∧ hiB b = 191) := by
 unfold hiB; split
 ·exact .inl ⟨by assumption, rfl⟩
 ·split
  ·exact .inr (.inl ⟨by assumption, rfl⟩)
  ·exact .inr (.inr ⟨by assumption, by assumption, rfl⟩)
theorem more_spec (b : Nat) : (more b = 1 ∧ 194 ≤ b ∧ b ≤ 223) ∨ (more b = 2 ∧ 224 ≤ b ∧ b ≤ 239) ∨ (more b = 3 ∧ 240 ≤ b ∧ b ≤ 244) ∨ (more b = 0 ∧ (b < 194 ∨ 244 < b)) := by
 unfold more
 split
 ·exact .inl ⟨rfl, by assumption⟩
 ·split
  ·exact .inr (.inl ⟨rfl, by assumption⟩)
  ·split
   ·exact .inr (.inr (.inl ⟨rfl, by assumption⟩))
   ·exact .inr (.inr (.inr ⟨rfl, by omega⟩))
theorem cont0 {s : Str} {p : Nat} : contOk s p 0 = true ↔ p + 1 < s.length ∧ loB (bt s p) ≤ bt s (p + 1) ∧ bt s (p + 1) ≤ hiB (bt s p) := by
 unfold contOk; rw [if_pos rfl, if_pos rfl, decide_eq_true_eq]
theorem cont1 {s : Str} {p : Nat} : contOk s p 1 = true ↔ p + 2 < s.length ∧ 128 ≤ bt s (p + 2) ∧ bt s (p + 2) ≤ 191 := by
 unfold contOk; rw [if_neg (by decide), if_neg (by decide), decide_eq_true_eq]
theorem cont2 {s : Str} {p : Nat} : contOk s p 2 = true ↔ p + 3 < s.length ∧ 128 ≤ bt s (p + 3) ∧ bt s (p + 3) ≤ 191 := by
 unfold contOk; rw [if_neg (by decide), if_neg (by decide), decide_eq_true_eq]
theorem wst_iff {s : Str} {p m : Nat} (hs : isSep (s.getD p 0) = false) (hm : more (bt s p) = m) (hb : ¬ (128 ≤ bt s p ∧ m = 0)) : wst s p = if (List.range m).all (contOk s p) then some (m + 1) else none := by
 unfold wst
 have h1 : badLead (bt s p) = false := by unfold badLead; rw [hm]; exact decide_eq_false hb
 rw [hs, h1, hm]; rfl
theorem wst_dec {s : Str} {p : Nat} (hp : p < s.length) (hs : isSep (s.getD p 0) = false) :
  wst s p = if (decodeL (s.drop p)).1 = 65533 ∧ (decodeL (s.drop p)).2 = 1 then none else some (decodeL (s.drop p)).2 := by
 rw [decode_bt]
 have hlo := loB_spec (bt s p)
 have hhi := hiB_spec (bt s p)
 have hmo := more_spec (bt s p)
 have r1 : (List.range 1).all (contOk s p) = contOk s p 0 := by simp [List.range_succ]
 have r2 : (List.range 2).all (contOk s p) = (contOk s p 0 && contOk s p 1) := by simp [List.range_succ]
 have r3 : (List.range 3).all (contOk s p) = (contOk s p 0 && contOk s p 1 && contOk s p 2) := by simp [List.range_succ, Bool.and_assoc]
 rcases decN_spec (n := s.length - p) (bt_lt s p) (bt_lt s (p + 1)) (bt_lt s (p + 2)) (bt_lt s (p + 3)) with ⟨h1, h2⟩ | ⟨h1, n2, n3, n4, h2⟩ | ⟨h1, r, hr, h2⟩ | ⟨h1, r, hr, h2⟩ | ⟨h1, r, hr, h2⟩ <;> rw [h2]
 ·rw [if_neg (by simp only; omega), wst_iff hs (m := 0) (by omega) (by omega)]; rfl
 ·rw [if_pos (by simp)]
  unfold C2 at n2
  unfold C3 at n3
  unfold C4 at n4
  rcases hmo with ⟨hm, hq⟩ | ⟨hm, hq⟩ | ⟨hm, hq⟩ | ⟨hm, hq⟩
  ·rw [wst_iff hs hm (by omega), r1, if_neg (by rw [cont0]; omega)]
  ·rw [wst_iff hs hm (by omega), r2, if_neg (by rw [Bool.and_eq_true, cont0, cont1]; omega)]
  ·rw [wst_iff hs hm (by omega), r3, if_neg (by rw [Bool.and_eq_true, Bool.and_eq_true, cont0, cont1, cont2]; omega)]
  ·unfold wst
   rw [hs, show badLead (bt s p) = true by unfold badLead; exact decide_eq_true ⟨h1, hm⟩]; rfl
 ·unfold C2 at h1
  rw [if_neg (by simp), wst_iff hs (m := 1) (by omega) (by omega), r1, if_pos (by rw [cont0]; omega)]
 ·unfold C3 at h1
  rw [if_neg (by simp), wst_iff hs (m := 2) (by omega) (by omega), r2, if_pos (by rw [Bool.and_eq_true, cont0, cont1]; omega)]
 ·unfold C4 at h1
  rw [if_neg (by simp), wst_iff hs (m := 3) (by omega) (by omega), r3, if_pos (by rw [Bool.and_eq_true, Bool.and_eq_true, cont0, cont1, cont2]; omega)]
theorem dec_bytes {s : Str} {p : Nat} (hp : p < s.length) : 1 ≤ (decodeL (s.drop p)).2 ∧ p + (decodeL (s.drop p)).2 ≤ s.length ∧
  ((bt s p < 128 ∧ decodeL (s.drop p) = (bt s p, 1)) ∨ (128 ≤ (decodeL (s.drop p)).1 ∧ ∀ j, j < (decodeL (s.drop p)).2 → 128 ≤ bt s (p + j))) := by
 rw [decode_bt]
 have e0 : bt s (p + 0) = bt s p := rfl
 have h4 : ∀ w, (w = 1 ∨ (w = 2 ∧ 128 ≤ bt s (p + 1)) ∨ (w = 3 ∧ 128 ≤ bt s (p + 1) ∧ 128 ≤ bt s (p + 2)) ∨ (w = 4 ∧ 128 ≤ bt s (p + 1) ∧ 128 ≤ bt s (p + 2) ∧ 128 ≤ bt s (p + 3))) → 128 ≤ bt s p → ∀ j, j < w → 128 ≤ bt s (p + j) := by
  intro w h h0 j hj
  have : j = 0 ∨ j = 1 ∨ j = 2 ∨ j = 3 := by omega
  rcases this with rfl | rfl | rfl | rfl
  ·exact h0
  ·omega
  ·omega
  ·omega
 rcases decN_spec (n := s.length - p) (bt_lt s p) (bt_lt s (p + 1)) (bt_lt s (p + 2)) (bt_lt s (p + 3)) with ⟨h1, h2⟩ | ⟨h1, n2, n3, n4, h2⟩ | ⟨h1, r, hr, h2⟩ | ⟨h1, r, hr, h2⟩ | ⟨h1, r, hr, h2⟩ <;> rw [h2]
 ·exact ⟨Nat.le_refl _, (show p + 1 ≤ s.length by omega), .inl ⟨h1, rfl⟩⟩
 ·exact ⟨Nat.le_refl _, (show p + 1 ≤ s.length by omega), .inr ⟨(show 128 ≤ 65533 by decide), h4 1 (.inl rfl) h1⟩⟩
 ·unfold C2 at h1
  exact ⟨(show 1 ≤ 2 by decide), (show p + 2 ≤ s.length by omega), .inr ⟨hr, h4 2 (by omega) (by omega)⟩⟩
 ·unfold C3 at h1
  exact ⟨(show 1 ≤ 3 by decide), (show p + 3 ≤ s.length by omega), .inr ⟨hr, h4 3 (by omega) (by omega)⟩⟩
 ·unfold C4 at h1
  exact ⟨(show 1 ≤ 4 by decide), (show p + 4 ≤ s.length by omega), .inr ⟨hr, h4 4 (by omega) (by omega)⟩⟩
theorem sepsTo_dec {s : Str} {p : Nat} (hp : p < s.length) (hs : isSep (s.getD p 0) = false) : (s.drop p).any isSep = (s.drop (p + (decodeL (s.drop p)).2)).any isSep := by
 obtain ⟨h1, h2, h3⟩ := dec_bytes hp
 have h3 : (decodeL (s.drop p)).2 = 1 ∨ ∀ j, j < (decodeL (s.drop p)).2 → 128 ≤ bt s (p + j) := h3.imp (fun q => by rw [q.2]) (fun q => q.2)
 generalize (decodeL (s.drop p)).2 = w at *
 have e : s.drop p = (s.drop p).take w ++ s.drop (p + w) := by rw [← List.drop_drop, List.take_append_drop]
 rw [e, List.any_append]
 have : ((s.drop p).take w).any isSep = false := by
  rw [List.any_eq_false]
  intro x hx
  obtain ⟨j, hj, rfl⟩ := List.mem_iff_getElem.1 hx
  rw [List.length_take, List.length_drop] at hj
  rw [List.getElem_take, List.getElem_drop]
  have hgd : s[p + j]'(by omega) = s.getD (p + j) 0 := by rw [List.getD_eq_getElem?_getD, List.getElem?_eq_getElem (by omega)]; rfl
  rw [hgd]
  rcases h3 with q | q
  ·obtain rfl : j = 0 := by omega
   rw [Nat.add_zero, hs]; decide
  ·rw [isSep_high (q j (by omega))]; decide
 rw [this, Bool.false_or]
def wcnt (s : Str) : Nat → Nat → Option Nat
 | 0, _ => some 0
 | f + 1, p => if p < s.length then match wst s p with
  | none => none
  | some w => (wcnt s f (p + w)).map (· + 1)
  else some 0
theorem wcnt_eq (s : Str) : ∀ (f p : Nat), s.length - p ≤ f → wcnt s f p = if validGoD f (s.drop p) && !(s.drop p).any isSep then some (runeCountFrom ⟨s.toArray⟩ f p) else none
 | 0, p, h => by
  rw [List.drop_of_length_le (by omega)]
  simp [wcnt, validGoD, runeCountFrom]
 | f + 1, p, h => by
  by_cases hp : p < s.length
  ·have hd : s.drop p ≠ [] := by intro e; have := congrArg List.length e; rw [List.length_drop, List.length_nil] at this; omega
   have hx : s[p]? = some (s.getD p 0) := some_getD 0 hp
   rw [wcnt, if_pos hp]
   cases hs : isSep (s.getD p 0) with
   | true =>
    have h1 : wst s p = none := by unfold wst; rw [hs]; rfl
    have h2 : (s.drop p).any isSep = true := by rw [drop_of_some hx, List.any_cons, hs]; rfl
    rw [h1, h2]; simp
   | false =>
    rw [wst_dec hp hs, validGoD, if_neg hd]
    obtain ⟨w1, w2, w3⟩ := dec_bytes hp
    by_cases hb : (decodeL (s.drop p)).1 = 65533 ∧ (decodeL (s.drop p)).2 = 1
    ·rw [if_pos hb, if_pos hb]; rfl
    ·rw [if_neg hb, if_neg hb, sepsTo_dec hp hs, List.drop_drop]
     have ih := wcnt_eq s f (p + (decodeL (s.drop p)).2) (by omega)
     show Option.map _ _ = _
     rw [ih, runeCountFrom]
     have hsz : p < (⟨s.toArray⟩ : ByteArray).size := by show p < s.toArray.size; simpa using hp
     rw [if_pos hsz]
     have hdec := decodeL_drop ⟨s.toArray⟩ p
     simp only at hdec
     rw [← hdec]
     split
     ·simp [Nat.add_comm]
     ·rfl
  ·rw [wcnt, if_neg hp, List.drop_of_length_le (by omega)]
   have hsz : ¬ p < (⟨s.toArray⟩ : ByteArray).size := by show ¬ p < s.toArray.size; simpa using hp
   simp [validGoD, runeCountFrom, hsz]
def wordN : Option Nat → Bool
 | some n => decide (1 ≤ n ∧ n ≤ 30)
 | none => false
def isWord (s : Str) : Bool := wordN (wcnt s s.length 0)
theorem isWord_eq (s : Str) : isWord s = (decide (1 ≤ runeCountL s) && decide (runeCountL s ≤ 30) && validD s && !s.any isSep) := by
 unfold isWord
 rw [wcnt_eq s s.length 0 (by omega), List.drop_zero]
 have : runeCountFrom ⟨s.toArray⟩ s.length 0 = runeCountL s := by unfold runeCountL runeCount; congr 1
 rw [this]
 unfold validD
 cases validGoD s.length s <;> cases s.any isSep <;> simp [wordN]
end Go.J

/-
  (YtolmidffiegkaaaDoorJ24)
  Rows of elements of two cells: a slice value and a number; read, written, exchanged.
  Conditions: none; everything holds of any program.
-/
namespace Go.J
open Go
section
variable {P : Program} {n : Nat} {F : Fr} {A : World → Prop} {c : Ctx} {H R : List Ent} {ty : TypeId} {x y : Operand} {v : Value} {Q : Exit → Act → World → Prop} {ops : Array Oper} {rest : List Oper}
 {pos : String} {after : Array Edge} {t e : TypeId} {m k : Nat} {cs : List Value}
theorem Ev.idxv {b o cap size : Nat} {i : Int} {kd : IntKind} (hv : v = .slice (some ⟨b, o, none⟩) m cap) (hx : Opd F x v) (hy : Opd F y (.int kd i)) (ht : P.underlying t = some (.slice e)) (hs : (P.info? e).map (·.size) = some size)
  (hi : i = k) (hk : k < m) : Ev P n F A (.indexAddr t x y) ty (eptr v size k 0) := .of_run fun a w ha _ => by
 subst hv
 obtain ⟨inf, hinf, hsz⟩ := Option.map_eq_some_iff.1 hs
 subst hi
 simp [execOp, hx.eval ha, hy.eval ha, Instr.indexAt, asIntOf, run_underlying ht, sizeOf, typeInfo, hinf, hsz, hk, eptr_slice, Addr.add_lit]
end
end Go.J

/-
  (YtolmidffiegkaaaDoorJ15b)
  Facts in one: a contract over several facts as a contract over their conjunction.
  Conditions: none; everything holds of any program.
-/
namespace Go.J
open Go
def allD (ds : List Dat) : Dat := ⟨fun ρ => ∀ d ∈ ds, d.f ρ, fun _ _ h k d hd => d.mono _ _ h (k d hd)⟩
theorem FnV.all {P : Program} {f : FuncId} {args : Array Value} {ds : List Dat} {v : Value} (h : FnV P f args ds v) : FnV P f args [allD ds] v := by
 intro w ρ st
 have hf : ∀ d ∈ ds, d.f ρ := dat_ok.1 (st.ents (dat (allD ds)) (by simp))
 have e : owns (ds.map dat) = owns ([allD ds].map dat) := by
  funext b
  apply propext
  constructor
  ·intro h; exact absurd h (owns_dats ds b)
  ·intro h; exact absurd h (owns_dats [allD ds] b)
 have st0 : MmR ⟨w, ρ, owns ([allD ds].map dat), True⟩ [] ρ w := MmR.drop st
 have st2 : Start (ds.map dat) ρ w := by
  have := st0.dats ds hf
  rw [List.append_nil] at this
  unfold Start
  rw [e]
  exact this
 have := h w ρ st2
 rw [e] at this
 exact this
theorem FnV.weak {P : Program} {f : FuncId} {args : Array Value} {ds ds' : List Dat} {v : Value} (h : FnV P f args ds v) (hi : ∀ ρ, (∀ d ∈ ds', d.f ρ) → ∀ d ∈ ds, d.f ρ) : FnV P f args ds' v := by
 intro w ρ st
 have hf : ∀ d ∈ ds', d.f ρ := fun d hd => dat_ok.1 (st.ents (dat d) (List.mem_map_of_mem hd))
 have e : owns (ds.map dat) = owns (ds'.map dat) := by
  funext b
  apply propext
  exact ⟨fun h => absurd h (owns_dats ds b), fun h => absurd h (owns_dats ds' b)⟩
 have st0 : MmR ⟨w, ρ, owns (ds'.map dat), True⟩ [] ρ w := by
  have : ∀ (l : List Dat), MmR ⟨w, ρ, owns (ds'.map dat), True⟩ (l.map dat) ρ w → MmR ⟨w, ρ, owns (ds'.map dat), True⟩ [] ρ w := by
   intro l
   induction l with
   | nil => exact fun h => h
   | cons d l ih => exact fun h => ih h.drop
  exact this ds' st
 have st2 : Start (ds.map dat) ρ w := by
  have := st0.dats ds (hi ρ hf)
  rw [List.append_nil] at this
  unfold Start
  rw [e]
  exact this
 have := h w ρ st2
 rw [e] at this
 exact this
theorem LentO.allD {c : Ctx} {L R : List Ent} {ds : List Dat} (h : LentO c L R ds) : LentO c L R [J.allD ds] := fun ρ w hm d hd => by
 rw [List.mem_singleton.1 hd]
 exact fun d' hd' => h ρ w hm d' hd'
theorem Lent.allD {c : Ctx} {H : List Ent} {ds : List Dat} (h : Lent c H ds) : Lent c H [J.allD ds] := fun ρ w hm d hd => by
 rw [List.mem_singleton.1 hd]
 exact fun d' hd' => h ρ w hm d' hd'
theorem St.cast {n : Nat} {F : Fr} {c : Ctx} {H H' : List Ent} {T : Act → World → Prop} (h : H = H') (k : St n F (Mm c H') T) : St n F (Mm c H) T := by rw [h]; exact k
end Go.J

/-
  (YtolmidffiegkaaaDoorJ25)
  Facts on every element of a list, in one; grammars, graphs, types, terms and trees as data.
  Conditions: none; everything holds of any program.
-/
namespace Go.J
open Go
section
variable {n : Nat} {F : Fr} {c : Ctx} {H R : List Ent} {T : Act → World → Prop} {α : Type}
def dall (f : α → Dat) (xs : List α) : Dat := ⟨fun ρ => ∀ x ∈ xs, (f x).f ρ, fun ρ ρ' h k x hx => (f x).mono _ _ h (k x hx)⟩
theorem St.dallAt (f : α → Dat) (xs : List α) {x : α} [hd : InD (dall f xs) H] (hx : x ∈ xs) (k : St n F (Mm c (dat (f x) :: H)) T) : St n F (Mm c H) T :=
 St.mkD (f x) [dall f xs] (fun ρ h => h _ (List.mem_cons_self ..) x hx) k
theorem St.dallNil (f : α → Dat) (k : St n F (Mm c (dat (dall f []) :: H)) T) : St n F (Mm c H) T :=
 St.fact (dall f []) (fun ρ _ _ => fun x hx => by cases hx) k
theorem St.dallSnoc (f : α → Dat) {xs : List α} {x : α} [hd : InD (dall f xs) H] [hx : InD (f x) H] (k : St n F (Mm c (dat (dall f (xs ++ [x])) :: H)) T) : St n F (Mm c H) T :=
 St.mkD (dall f (xs ++ [x])) [dall f xs, f x] (fun ρ h y hy => by
  rcases List.mem_append.1 hy with hy | hy
  ·exact h _ (List.mem_cons_self ..) y hy
  ·rw [List.mem_singleton.1 hy]; exact h _ (List.mem_cons_of_mem _ (List.mem_cons_self ..))) k
theorem St.dallCons (f : α → Dat) {xs : List α} {x : α} [hd : InD (dall f xs) H] [hx : InD (f x) H] (k : St n F (Mm c (dat (dall f (x :: xs)) :: H)) T) : St n F (Mm c H) T :=
 St.mkD (dall f (x :: xs)) [dall f xs, f x] (fun ρ h y hy => by
  rcases List.mem_cons.1 hy with rfl | hy
  ·exact h _ (List.mem_cons_of_mem _ (List.mem_cons_self ..))
  ·exact h _ (List.mem_cons_self ..) y hy) k
end
abbrev slen (s : Str) : Prop := s.length ≤ 140737488351232
structure TyD where
 name : Str
 pv : OneV
 parents : List Int
structure FeatD where
 name : Str
 of_ : Int
 value : Int
structure LinkD where
 feat : Int
 to : Int
structure NodeD where
 type : Int
 lv : OneV
 links : List LinkD
structure GraphD where
 nv : OneV
 nodes : List NodeD
inductive SimD where
 | mk (base : Str) (av : OneV) (args : List SimD)
inductive TermD where
 | mk (kind : Int) (name : Str) (index : Int) (type : SimD) (av : OneV) (args : List TermD)
inductive TreeD where
 | mk (rule lex : Int) (kv : OneV) (kids : List TreeD)
def SimD.base : SimD → Str | .mk b _ _ => b
def SimD.av : SimD → OneV | .mk _ v _ => v
def SimD.args : SimD → List SimD | .mk _ _ l => l
def TermD.kind : TermD → Int | .mk k _ _ _ _ _ => k
def TermD.name : TermD → Str | .mk _ s _ _ _ _ => s
def TermD.index : TermD → Int | .mk _ _ i _ _ _ => i
def TermD.type : TermD → SimD | .mk _ _ _ t _ _ => t
def TermD.av : TermD → OneV | .mk _ _ _ _ v _ => v
def TermD.args : TermD → List TermD | .mk _ _ _ _ _ l => l
def TreeD.rule : TreeD → Int | .mk r _ _ _ => r
def TreeD.lex : TreeD → Int | .mk _ l _ _ => l
def TreeD.kv : TreeD → OneV | .mk _ _ v _ => v
def TreeD.kids : TreeD → List TreeD | .mk _ _ _ l => l
structure RuleD where
 name : Str
 graph : GraphD
 kids : Int
 weight : Int
 mean : TermD
structure LexD where
 word : Str
 graph : GraphD
 weight : Int
 mean : TermD
structure GrmD where
 tv : OneV
 types : List TyD
 fv : OneV
 feats : List FeatD
 rv : OneV
 rules : List RuleD
 xv : OneV
 lexes : List LexD
 start : GraphD
def tyR : Rp TyD := ⟨2, by decide, fun x => [sv x.name, x.pv.1], fun x => slen x.name, fun _ => rfl, fun x u h => by simp at h; rcases h with rfl | rfl; rfl; exact x.pv.2⟩
def featR : Rp FeatD := ⟨3, by decide, fun x => [sv x.name, iv x.of_, iv x.value], fun x => slen x.name ∧ i64ok x.of_ ∧ i64ok x.value, fun _ => rfl, fun x u h => by simp at h; rcases h with rfl | rfl | rfl <;> rfl⟩
def linkR : Rp LinkD := ⟨2, by decide, fun x => [iv x.feat, iv x.to], fun x => i64ok x.feat ∧ i64ok x.to, fun _ => rfl, fun x u h => by simp at h; rcases h with rfl | rfl <;> rfl⟩
def nodeR : Rp NodeD := ⟨2, by decide, fun x => [iv x.type, x.lv.1], fun x => i64ok x.type, fun _ => rfl, fun x u h => by simp at h; rcases h with rfl | rfl; rfl; exact x.lv.2⟩
def simR : Rp SimD := ⟨2, by decide, fun x => [sv x.base, x.av.1], fun x => slen x.base, fun _ => rfl, fun x u h => by simp at h; rcases h with rfl | rfl; rfl; exact x.av.2⟩
abbrev termC (x : TermD) : List Value := [iv x.kind, sv x.name, iv x.index, sv x.type.base, x.type.av.1, x.av.1]
theorem one_cons {u : Value} {L : List Value} (h : u.oneCell' = true) (k : ∀ v ∈ L, v.oneCell' = true) : ∀ v ∈ u :: L, v.oneCell' = true := fun v hv => by
 rcases List.mem_cons.1 hv with rfl | hv
 ·exact h
 ·exact k v hv
theorem one_nil : ∀ v ∈ ([] : List Value), v.oneCell' = true := fun v hv => by cases hv
theorem termC_one (x : TermD) : ∀ u ∈ termC x, u.oneCell' = true := one_cons rfl (one_cons rfl (one_cons rfl (one_cons rfl (one_cons x.type.av.2 (one_cons x.av.2 one_nil)))))
def termR : Rp TermD := ⟨6, by decide, termC, fun x => i64ok x.kind ∧ slen x.name ∧ i64ok x.index ∧ slen x.type.base, fun _ => rfl, fun x u h => termC_one x u h⟩
abbrev treeC (x : TreeD) : List Value := [iv x.rule, iv x.lex, x.kv.1]
def treeR : Rp TreeD := ⟨3, by decide, treeC, fun x => i64ok x.rule ∧ i64ok x.lex, fun _ => rfl, fun x u h => by simp at h; rcases h with rfl | rfl | rfl; rfl; rfl; exact x.kv.2⟩
abbrev ruleC (x : RuleD) : List Value := [sv x.name, x.graph.nv.1, iv x.kids, iv x.weight, iv x.mean.kind, sv x.mean.name, iv x.mean.index, sv x.mean.type.base, x.mean.type.av.1, x.mean.av.1]
def ruleR : Rp RuleD := ⟨10, by decide, ruleC, fun x => slen x.name ∧ i64ok x.kids ∧ i64ok x.weight ∧ termR.wf x.mean, fun _ => rfl, fun x u h => one_cons rfl (one_cons x.graph.nv.2 (one_cons rfl (one_cons rfl (termC_one x.mean)))) u h⟩
abbrev lexC (x : LexD) : List Value := [sv x.word, x.graph.nv.1, iv x.weight, iv x.mean.kind, sv x.mean.name, iv x.mean.index, sv x.mean.type.base, x.mean.type.av.1, x.mean.av.1]
def lexR : Rp LexD := ⟨9, by decide, lexC, fun x => slen x.word ∧ i64ok x.weight ∧ termR.wf x.mean, fun _ => rfl, fun x u h => one_cons rfl (one_cons x.graph.nv.2 (one_cons rfl (termC_one x.mean))) u h⟩
instance (x : TyD) : Cel tyR x [sv x.name, x.pv.1] := ⟨rfl⟩
instance (x : FeatD) : Cel featR x [sv x.name, iv x.of_, iv x.value] := ⟨rfl⟩
instance (x : LinkD) : Cel linkR x [iv x.feat, iv x.to] := ⟨rfl⟩
instance (x : NodeD) : Cel nodeR x [iv x.type, x.lv.1] := ⟨rfl⟩
instance (x : SimD) : Cel simR x [sv x.base, x.av.1] := ⟨rfl⟩
instance (x : TermD) : Cel termR x (termC x) := ⟨rfl⟩
instance (x : TreeD) : Cel treeR x (treeC x) := ⟨rfl⟩
instance (x : RuleD) : Cel ruleR x (ruleC x) := ⟨rfl⟩
instance (x : LexD) : Cel lexR x (lexC x) := ⟨rfl⟩
abbrev grmC (g : GrmD) : List Value := [g.tv.1, g.fv.1, g.rv.1, g.xv.1, g.start.nv.1]
inductive SimOK (ρ : Ro) : SimD → Prop
 | mk {x : SimD} (h : (sl simR x.av.1 x.args).f ρ) (k : ∀ y ∈ x.args, SimOK ρ y) : SimOK ρ x
inductive TermOK (ρ : Ro) : TermD → Prop
 | mk {x : TermD} (ht : SimOK ρ x.type) (h : (sl termR x.av.1 x.args).f ρ) (k : ∀ y ∈ x.args, TermOK ρ y) : TermOK ρ x
inductive TreeOK (ρ : Ro) : TreeD → Prop
 | mk {x : TreeD} (h : (sl treeR x.kv.1 x.kids).f ρ) (k : ∀ y ∈ x.kids, TreeOK ρ y) : TreeOK ρ x
theorem SimOK.mono {ρ ρ' : Ro} (h : ∀ k o, ρ k = some o → ρ' k = some o) {x : SimD} (hx : SimOK ρ x) : SimOK ρ' x := by
 induction hx with
 | mk h1 _ ih => exact .mk ((sl _ _ _).mono _ _ h h1) ih
theorem TermOK.mono {ρ ρ' : Ro} (h : ∀ k o, ρ k = some o → ρ' k = some o) {x : TermD} (hx : TermOK ρ x) : TermOK ρ' x := by
 induction hx with
 | mk ht h1 _ ih => exact .mk (ht.mono h) ((sl _ _ _).mono _ _ h h1) ih
theorem TreeOK.mono {ρ ρ' : Ro} (h : ∀ k o, ρ k = some o → ρ' k = some o) {x : TreeD} (hx : TreeOK ρ x) : TreeOK ρ' x := by
 induction hx with
 | mk h1 _ ih => exact .mk ((sl _ _ _).mono _ _ h h1) ih
def simD (x : SimD) : Dat := ⟨fun ρ => SimOK ρ x, fun _ _ h k => k.mono h⟩
def termD (x : TermD) : Dat := ⟨fun ρ => TermOK ρ x, fun _ _ h k => k.mono h⟩
def treeD (x : TreeD) : Dat := ⟨fun ρ => TreeOK ρ x, fun _ _ h k => k.mono h⟩
def tyD (x : TyD) : Dat := sl intR x.pv.1 x.parents
def nodeD (x : NodeD) : Dat := sl linkR x.lv.1 x.links
def graphL (g : GraphD) : List Dat := [sl nodeR g.nv.1 g.nodes, dall nodeD g.nodes]
def graphD (g : GraphD) : Dat := allD (graphL g)
def ruleL (x : RuleD) : List Dat := [graphD x.graph, termD x.mean]
def ruleD (x : RuleD) : Dat := allD (ruleL x)
def lexL (x : LexD) : List Dat := [graphD x.graph, termD x.mean]
def lexD (x : LexD) : Dat := allD (lexL x)
def hierL (tv fv : OneV) (ts : List TyD) (fs : List FeatD) : List Dat := [sl tyR tv.1 ts, dall tyD ts, sl featR fv.1 fs]
def grmL (g : GrmD) : List Dat := [sl tyR g.tv.1 g.types, dall tyD g.types, sl featR g.fv.1 g.feats, sl ruleR g.rv.1 g.rules, dall ruleD g.rules, sl lexR g.xv.1 g.lexes, dall lexD g.lexes, graphD g.start]
def grmD (g : GrmD) : Dat := allD (grmL g)
section
variable {n : Nat} {F : Fr} {c : Ctx} {H R : List Ent} {T : Act → World → Prop}
theorem St.openSim (x : SimD) [hd : InD (simD x) H] (k : St n F (Mm c (dat (sl simR x.av.1 x.args) :: dat (dall simD x.args) :: H)) T) : St n F (Mm c H) T :=
 St.openD (ι := Unit) (simD x) (fun _ => [sl simR x.av.1 x.args, dall simD x.args]) (fun ρ h => ⟨(), fun e he => by
  cases h with
  | mk h k =>
   simp only [List.mem_cons, List.not_mem_nil, or_false] at he
   rcases he with rfl | rfl
   ·exact h
   ·exact k⟩) fun _ => k
theorem St.openTerm (x : TermD) [hd : InD (termD x) H] (k : St n F (Mm c (dat (simD x.type) :: dat (sl termR x.av.1 x.args) :: dat (dall termD x.args) :: H)) T) : St n F (Mm c H) T :=
 St.openD (ι := Unit) (termD x) (fun _ => [simD x.type, sl termR x.av.1 x.args, dall termD x.args]) (fun ρ h => ⟨(), fun e he => by
  cases h with
  | mk ht h k =>
   simp only [List.mem_cons, List.not_mem_nil, or_false] at he
   rcases he with rfl | rfl | rfl
   ·exact ht
   ·exact h
   ·exact k⟩) fun _ => k
theorem St.openTree (x : TreeD) [hd : InD (treeD x) H] (k : St n F (Mm c (dat (sl treeR x.kv.1 x.kids) :: dat (dall treeD x.kids) :: H)) T) : St n F (Mm c H) T :=
 St.openD (ι := Unit) (treeD x) (fun _ => [sl treeR x.kv.1 x.kids, dall treeD x.kids]) (fun ρ h => ⟨(), fun e he => by
  cases h with
  | mk h k =>
   simp only [List.mem_cons, List.not_mem_nil, or_false] at he
   rcases he with rfl | rfl
   ·exact h
   ·exact k⟩) fun _ => k
end
end Go.J
