/-
  Several texts in one: YtolmidffiegkaaaDoorQryP, YtolmidffiegkaaaDoorJ26, YtolmidffiegkaaaDoorJ27, YtolmidffiegkaaaDoorJV, YtolmidffiegkaaaDoorMtcP, YtolmidffiegkaaaDoorMtcQ, YtolmidffiegkaaaDoorJ32, YtolmidffiegkaaaDoorOpenG, YtolmidffiegkaaaDoorJ28, YtolmidffiegkaaaDoorJ29, YtolmidffiegkaaaDoorFactsQ, YtolmidffiegkaaaDoorQ1, YtolmidffiegkaaaDoorTermP, YtolmidffiegkaaaDoorOrdP, YtolmidffiegkaaaDoorQ7.
  Conditions: none.
-/
import Derived.Test.YtolmidffiegkaaaDoorGB1
import Derived.Test.YtolmidffiegkaaaDoorChecked
/-
  (YtolmidffiegkaaaDoorQryP)
  Grammars, graphs, types, terms and trees without their values; what the checks of grammars and trees answer.
  Conditions: none.
-/
namespace Go.Proofs.YtolmidffiegkaaaDoor
open Go Go.J
inductive Sm0 where
 | mk (base : Str) (args : List Sm0)
inductive Tm0 where
 | mk (kind : Int) (name : Str) (index : Int) (type : Sm0) (args : List Tm0)
inductive Tr0 where
 | mk (rule lex : Int) (kids : List Tr0)
mutual
def simE : SimD → Sm0
 | .mk b _ l => .mk b (simEL l)
def simEL : List SimD → List Sm0
 | [] => []
 | x :: l => simE x :: simEL l
end
mutual
def termE : TermD → Tm0
 | .mk k s i t _ l => .mk k s i (simE t) (termEL l)
def termEL : List TermD → List Tm0
 | [] => []
 | x :: l => termE x :: termEL l
end
mutual
def treeE : TreeD → Tr0
 | .mk r x _ l => .mk r x (treeEL l)
def treeEL : List TreeD → List Tr0
 | [] => []
 | x :: l => treeE x :: treeEL l
end
theorem simEL_map : ∀ l : List SimD, simEL l = l.map simE
 | [] => rfl
 | x :: l => by rw [simEL, simEL_map l]; rfl
theorem termEL_map : ∀ l : List TermD, termEL l = l.map termE
 | [] => rfl
 | x :: l => by rw [termEL, termEL_map l]; rfl
theorem treeEL_map : ∀ l : List TreeD, treeEL l = l.map treeE
 | [] => rfl
 | x :: l => by rw [treeEL, treeEL_map l]; rfl
def Sm0.base : Sm0 → Str | .mk b _ => b
def Sm0.args : Sm0 → List Sm0 | .mk _ l => l
def Tm0.kind : Tm0 → Int | .mk k _ _ _ _ => k
def Tm0.name : Tm0 → Str | .mk _ s _ _ _ => s
def Tm0.index : Tm0 → Int | .mk _ _ i _ _ => i
def Tm0.type : Tm0 → Sm0 | .mk _ _ _ t _ => t
def Tm0.args : Tm0 → List Tm0 | .mk _ _ _ _ l => l
def Tr0.rule : Tr0 → Int | .mk r _ _ => r
def Tr0.lex : Tr0 → Int | .mk _ l _ => l
def Tr0.kids : Tr0 → List Tr0 | .mk _ _ l => l
theorem simE_base (x : SimD) : (simE x).base = x.base := by cases x; rfl
theorem simE_args (x : SimD) : (simE x).args = x.args.map simE := by cases x; exact simEL_map _
theorem termE_args (x : TermD) : (termE x).args = x.args.map termE := by cases x; exact termEL_map _
abbrev Ty0 := Str × List Int
abbrev Ft0 := Str × Int × Int
abbrev Nd0 := Int × List (Int × Int)
abbrev Gr0 := List Nd0
structure Ru0 where
 name : Str
 graph : Gr0
 kids : Int
 weight : Int
 mean : Tm0
structure Lx0 where
 word : Str
 graph : Gr0
 weight : Int
 mean : Tm0
structure Gm0 where
 types : List Ty0
 feats : List Ft0
 rules : List Ru0
 lexes : List Lx0
 start : Gr0
def tyE (x : TyD) : Ty0 := (x.name, x.parents)
def ftE (x : FeatD) : Ft0 := (x.name, x.of_, x.value)
def lkE (x : LinkD) : Int × Int := (x.feat, x.to)
def ndE (x : NodeD) : Nd0 := (x.type, x.links.map lkE)
def grE (g : GraphD) : Gr0 := g.nodes.map ndE
def ruE (x : RuleD) : Ru0 := ⟨x.name, grE x.graph, x.kids, x.weight, termE x.mean⟩
def lxE (x : LexD) : Lx0 := ⟨x.word, grE x.graph, x.weight, termE x.mean⟩
def gmE (g : GrmD) : Gm0 := ⟨g.types.map tyE, g.feats.map ftE, g.rules.map ruE, g.lexes.map lxE, grE g.start⟩
def parF (i : Int) : Int → List Int → Int × Int
 | _, [] => (0, 0)
 | last, p :: ps => if p < 0 ∨ i ≤ p then (3, i) else if p ≤ last then (13, i) else parF i p ps
def tyFrom : List Str → Nat → List Ty0 → Int × Int
 | _, _, [] => (0, 0)
 | known, i, t :: ts => if isName t.1 = false then (10, i) else if t.1 ∈ known then (7, i) else if decide (i = 0) ≠ decide (t.2.length = 0) then (5, i)
  else if (parF i (-1) t.2).1 ≠ 0 then parF i (-1) t.2 else tyFrom (known ++ [t.1]) (i + 1) ts
def tyF (l : List Ty0) : Int × Int := if l.length = 0 ∨ 60 < l.length then (2, -1) else tyFrom [] 0 l
def upOf (U : List Nat) (i : Nat) (ps : List Int) : Nat := ps.foldl (fun u p => u ||| U.getD p.toNat 0) (2 ^ i)
def upsGo : List Nat → List Ty0 → List Nat
 | U, [] => U
 | U, t :: l => upsGo (U ++ [upOf U U.length t.2]) l
def ups (l : List Ty0) : List Nat := upsGo [] l
def subT (l : List Ty0) (i j : Nat) : Bool := ((ups l).getD i 0).testBit j
def comm (l : List Ty0) (a b : Nat) : List Nat := (List.range l.length).filter fun i => subT l i a && subT l i b
def wrongT (l : List Ty0) (a b : Nat) : Bool := match comm l a b with
 | [] => false
 | m :: r => r.any fun i => !subT l i m
def unmet (l : List Ty0) : Option Nat := (List.range l.length).find? fun b => (List.range b).any fun a => wrongT l a b
def ftFrom (n : Int) : List Str → Nat → List Ft0 → Int × Int
 | _, _, [] => (0, 0)
 | known, i, f :: fs => if isName f.1 = false then (10, i) else if f.1 ∈ known then (7, i) else if f.2.1 < 0 ∨ n ≤ f.2.1 ∨ f.2.2 < 0 ∨ n ≤ f.2.2 then (3, i) else ftFrom n (known ++ [f.1]) (i + 1) fs
def hierF (ts : List Ty0) (fs : List Ft0) : Int × Int :=
 if 40 < fs.length then (2, -1) else if (tyF ts).1 ≠ 0 then tyF ts else match unmet ts with
  | some b => (16, b)
  | none => ftFrom ts.length [] 0 fs
def lkF (nf nn i : Int) : Int → List (Int × Int) → Int × Int
 | _, [] => (0, 0)
 | last, x :: xs => if x.1 < 0 ∨ nf ≤ x.1 ∨ x.2 < 0 ∨ nn ≤ x.2 then (3, i) else if x.1 ≤ last then (13, i) else lkF nf nn i x.1 xs
def looseFrom (nt nf nn : Int) : Nat → Gr0 → Int × Int
 | _, [] => (0, 0)
 | i, x :: xs => if x.1 < 0 ∨ nt ≤ x.1 then (3, i) else if (lkF nf nn i (-1) x.2).1 ≠ 0 then lkF nf nn i (-1) x.2 else looseFrom nt nf nn (i + 1) xs
def looseF (nt nf : Int) (g : Gr0) : Int × Int := if g.length = 0 ∨ 60 < g.length then (2, -2) else looseFrom nt nf g.length 0 g
def nd0 : Nd0 := (0, [])
def ft0 : Ft0 := ([], 0, 0)
def badLk (ts : List Ty0) (fs : List Ft0) (g : Gr0) (t : Int) (x : Int × Int) : Bool :=
 !subT ts t.toNat (fs.getD x.1.toNat ft0).2.1.toNat || !subT ts (g.getD x.2.toNat nd0).1.toNat (fs.getD x.1.toNat ft0).2.2.toNat
def badNd (ts : List Ty0) (fs : List Ft0) (g : Gr0) (i : Nat) : Bool := (g.getD i nd0).2.any (badLk ts fs g (g.getD i nd0).1)
def firstBad (ts : List Ty0) (fs : List Ft0) (g : Gr0) : Option Nat := (List.range g.length).find? (badNd ts fs g)
def mark1 (i : Nat) (M : List Bool) (x : Int × Int) : List Bool := if M.getD i false then M.set x.2.toNat true else M
def passN (g : Gr0) (M : List Bool) (i : Nat) : List Bool := (g.getD i nd0).2.foldl (mark1 i) M
def pass (g : Gr0) (M : List Bool) : List Bool := (List.range g.length).foldl (passN g) M
def passes (g : Gr0) : Nat → List Bool
 | 0 => (List.replicate g.length false).set 0 true
 | k + 1 => pass g (passes g k)
def idxF : List Bool → Int
 | [] => -1
 | b :: l => if b = false then 0 else if idxF l < 0 then -1 else idxF l + 1
def unr (g : Gr0) : Int := idxF (passes g g.length)
def withinF (ts : List Ty0) (fs : List Ft0) (g : Gr0) : Int × Int :=
 if (looseF ts.length fs.length g).1 ≠ 0 then looseF ts.length fs.length g else match firstBad ts fs g with
  | some i => (12, i)
  | none => if 0 ≤ unr g then (5, unr g) else (0, 0)
def tgt (g : Gr0) (k : Int) : Int := match (g.getD 0 nd0).2.find? fun x => x.1 == k with
 | some x => x.2
 | none => -1
def placesB (g : Gr0) (kids : Int) : Bool := (List.range 4).all fun k => decide (0 ≤ tgt g k) == decide ((k : Int) ≤ kids)
abbrev sE : Str := [101]
abbrev sT : Str := [116]
def simShape (b : Str) (m : Nat) : Bool := (decide (b = sE) || decide (b = sT)) && decide (m = 0) || decide (b = []) && decide (m = 2)
mutual
def simW : Sm0 → Nat → Nat → Nat × Int
 | .mk b l, d, n => if 200 < n + 1 ∨ 40 < d then (n + 1, 1) else if simShape b l.length = false then (n + 1, 5) else simWL l (d + 1) (n + 1)
def simWL : List Sm0 → Nat → Nat → Nat × Int
 | [], _, n => (n, 0)
 | x :: l, d, n => if (simW x d n).2 ≠ 0 then simW x d n else simWL l d (simW x d n).1
end
def simF (s : Sm0) : Int := (simW s 1 0).2
def noneS (s : Sm0) : Bool := decide (s.base = []) && decide (s.args.length = 0)
mutual
def sameS : Sm0 → Sm0 → Bool
 | .mk a l, .mk b m => decide (a = b) && decide (l.length = m.length) && sameSL l m
def sameSL : List Sm0 → List Sm0 → Bool
 | x :: l, y :: m => sameS x y && sameSL l m
 | _, _ => true
end
def tmOne (kind : Int) (name : Str) (index : Int) (type : Sm0) (m : Nat) (bd : Nat) : Int :=
 if kind = 1 then (if index ≠ 0 ∨ m ≠ 0 then 5 else if isName name = false then 10 else if simF type ≠ 0 then 12 else 0)
 else if kind = 2 then (if name ≠ [] ∨ noneS type = false ∨ m ≠ 0 then 5 else if index < 0 ∨ (bd : Int) ≤ index then 15 else 0)
 else if kind = 3 then (if name ≠ [] ∨ index ≠ 0 ∨ m ≠ 1 then 5 else if simF type ≠ 0 then 12 else 0)
 else if kind = 4 then (if name ≠ [] ∨ index ≠ 0 ∨ noneS type = false ∨ m ≠ 2 then 5 else 0)
 else 4
mutual
def tmW : Tm0 → Nat → Nat → Nat → Nat × Int × Int
 | .mk k s i t l, d, bd, n => if 200 < n + 1 ∨ 40 < d then (n + 1, 1, n) else if tmOne k s i t l.length bd ≠ 0 then (n + 1, tmOne k s i t l.length bd, n) else tmWL l (d + 1) (if k = 3 then bd + 1 else bd) (n + 1)
def tmWL : List Tm0 → Nat → Nat → Nat → Nat × Int × Int
 | [], _, _, n => (n, 0, 0)
 | x :: l, d, bd, n => if (tmW x d bd n).2.1 ≠ 0 then tmW x d bd n else tmWL l d bd (tmW x d bd n).1
end
def appT : Option Sm0 → Option Sm0 → Option Sm0
 | some (.mk _ [a, b]), some x => if sameS a x then some b else none
 | _, _ => none
mutual
def typT : Tm0 → List Sm0 → Option Sm0
 | .mk k _ i t l, c => if k = 1 then some t else if k = 2 then c[c.length - 1 - i.toNat]? else if k = 3 then (typHead l (c ++ [t])).map fun b => .mk [] [t, b] else appT (typHead l c) (typSnd l c)
def typHead : List Tm0 → List Sm0 → Option Sm0
 | x :: _, c => typT x c
 | [], _ => none
def typSnd : List Tm0 → List Sm0 → Option Sm0
 | _ :: l, c => typHead l c
 | [], _ => none
end
def termF (t : Tm0) : Int × Int := if (tmW t 1 0 0).2.1 ≠ 0 then (tmW t 1 0 0).2 else if (typT t []).isNone then (12, -1) else (0, 0)
def ruleF (ts : List Ty0) (fs : List Ft0) (r : Ru0) : Int :=
 if r.kids < 1 ∨ 3 < r.kids ∨ r.weight < 0 ∨ 1000000 < r.weight then 3 else if (withinF ts fs r.graph).1 ≠ 0 then (withinF ts fs r.graph).1 else if placesB r.graph r.kids = false then 5 else (termF r.mean).1
def lexF (ts : List Ty0) (fs : List Ft0) (x : Lx0) : Int :=
 if isWord x.word = false then 10 else if x.weight < 0 ∨ 1000000 < x.weight then 3 else if (withinF ts fs x.graph).1 ≠ 0 then (withinF ts fs x.graph).1 else (termF x.mean).1
def ruFrom (ts : List Ty0) (fs : List Ft0) : List Str → Nat → List Ru0 → Int × Int
 | _, _, [] => (0, 0)
 | known, i, r :: rs => if isName r.name = false then (10, i) else if r.name ∈ known then (7, i) else if ruleF ts fs r ≠ 0 then (ruleF ts fs r, i) else ruFrom ts fs (known ++ [r.name]) (i + 1) rs
def lxFrom (ts : List Ty0) (fs : List Ft0) : Nat → List Lx0 → Int × Int
 | _, [] => (0, 0)
 | i, x :: xs => if lexF ts fs x ≠ 0 then (lexF ts fs x, i) else lxFrom ts fs (i + 1) xs
def grmF (g : Gm0) : Int × Int :=
 if (hierF g.types g.feats).1 ≠ 0 then hierF g.types g.feats else if g.feats.length ≤ 3 then (9, -1) else if 40 < g.rules.length ∨ 100 < g.lexes.length then (2, -1)
 else if (ruFrom g.types g.feats [] 0 g.rules).1 ≠ 0 then ruFrom g.types g.feats [] 0 g.rules else if (lxFrom g.types g.feats 0 g.lexes).1 ≠ 0 then lxFrom g.types g.feats 0 g.lexes
 else if (withinF g.types g.feats g.start).1 ≠ 0 then ((withinF g.types g.feats g.start).1, -1) else (0, 0)
structure TrS where
 nodes : Nat
 leaves : Nat
mutual
def trW (rk : List Int) (nl : Int) : Tr0 → Nat → Nat → TrS → TrS × Int × Int
 | .mk r x l, d, ch, s =>
  if 200 < s.nodes + 1 ∨ 48 < d then (⟨s.nodes + 1, s.leaves⟩, 1, s.nodes)
  else if r < -1 ∨ rk.length ≤ r ∨ (r = -1 ∧ (x < 0 ∨ nl ≤ x)) then (⟨s.nodes + 1, s.leaves⟩, 3, s.nodes)
  else if 0 ≤ r ∧ x ≠ 0 then (⟨s.nodes + 1, s.leaves⟩, 5, s.nodes)
  else if (l.length : Int) ≠ (if 0 ≤ r then rk.getD r.toNat 0 else 0) then (⟨s.nodes + 1, if 0 ≤ r then s.leaves else s.leaves + 1⟩, 9, s.nodes)
  else if 3 < (if l.length = 1 then ch + 1 else 0) then (⟨s.nodes + 1, if 0 ≤ r then s.leaves else s.leaves + 1⟩, 14, s.nodes)
  else trWL rk nl l (d + 1) (if l.length = 1 then ch + 1 else 0) ⟨s.nodes + 1, if 0 ≤ r then s.leaves else s.leaves + 1⟩
def trWL (rk : List Int) (nl : Int) : List Tr0 → Nat → Nat → TrS → TrS × Int × Int
 | [], _, _, s => (s, 0, 0)
 | x :: l, d, ch, s => if (trW rk nl x d ch s).2.1 ≠ 0 then trW rk nl x d ch s else trWL rk nl l d ch (trW rk nl x d ch s).1
end
def treeF (g : Gm0) (t : Tr0) : Int × Int :=
 if (trW (g.rules.map Ru0.kids) g.lexes.length t 1 0 ⟨0, 0⟩).2.1 ≠ 0 then (trW (g.rules.map Ru0.kids) g.lexes.length t 1 0 ⟨0, 0⟩).2
 else if 12 < (trW (g.rules.map Ru0.kids) g.lexes.length t 1 0 ⟨0, 0⟩).1.leaves then (2, -2) else (0, 0)
end Go.Proofs.YtolmidffiegkaaaDoor

/-
  (YtolmidffiegkaaaDoorJ26)
  Regions that draw their order, where each operation only adds a value with a fact on it: the order makes no difference, and each operation is followed once.
  Conditions: none; everything holds of any program.
-/
namespace Go.J
open Go
def eqD (u v : Value) : Dat := ⟨fun _ => u = v, fun _ _ _ h => h⟩
structure Bag where
 slot : Nat
 deps : List Nat
 K : Value → Dat
instance : Inhabited Bag := ⟨⟨0, [], fun u => eqD u u⟩⟩
def bagF (bs : List Bag) (e : Nat → Value) (ds : List Nat) : Fr := ds.map fun j => ((bs.getD j default).slot, e j)
def bagD (bs : List Bag) (e : Nat → Value) (ds : List Nat) : List Ent := ds.map fun j => dat ((bs.getD j default).K (e j))
def BagPost (c : Ctx) (H : List Ent) (slot : Nat) (K : Value → Dat) (a : Act) (w : World) : Prop := a.defers = [] ∧ ∃ u, a.tmps[slot]? = some u ∧ Mm c (dat (K u) :: H) w
section
variable {P : Program} {ops : Array Oper} {Q : Exit → Act → World → Prop} {n : Nat} {F : Fr} {c : Ctx} {H R : List Ent}
class Tail (H H' : List Ent) : Prop where
 eq : ∃ L, H' = L ++ H
instance (priority := high) Tail.here (H : List Ent) : Tail H H := ⟨[], rfl⟩
instance Tail.there (E : Ent) (H H' : List Ent) [h : Tail H H'] : Tail H (E :: H') := ⟨let ⟨L, e⟩ := h.eq; ⟨E :: L, by rw [e]; rfl⟩⟩
theorem MmR.tail {c : Ctx} {L H : List Ent} {ρ : Ro} {w : World} (h : MmR c (L ++ H) ρ w) : MmR c H ρ w := by
 induction L with
 | nil => exact h
 | cons E L ih => exact ih (MmR.drop h)
theorem St.bagged {Fb : Fr} {H' : List Ent} {slot : Nat} {K : Value → Dat} (u : Value) (hl : look Fb slot = some u) (d : Dat) (hd : K u = d) [hi : InD d H'] [tl : Tail H H'] : St n Fb (Mm c H') (BagPost c H slot K) :=
 fun a w ha hw => ⟨ha.defers, u, ha.slot _ _ hl, by
  rw [hd]
  obtain ⟨ρ, hm⟩ := hw.out
  have hd' := dat_ok.1 (hm.ents _ hi.mem)
  obtain ⟨L, e⟩ := tl.eq
  subst e
  exact Mm.mk (hm.tail.fact d hd')⟩
def Hop (P : Program) (ops : Array Oper) (Q : Exit → Act → World → Prop) (n : Nat) (F : Fr) (dr : Prop) (H : List Ent) (bs : List Bag) (b : Bag) (o : Oper) : Prop :=
 ∀ (c : Ctx) (e : Nat → Value), (¬ dr → ¬ c.dr) → St n (bagF bs e b.deps ++ F) (Mm c (bagD bs e b.deps ++ H)) (wpList P ops (Exit.then (BagPost c H b.slot b.K) Q) [o])
theorem Hop.mk {dr : Prop} {bs : List Bag} {slot : Nat} {deps : List Nat} {K : Value → Dat} {o : Oper} (Ff : (Nat → Value) → Fr) (L : (Nat → Value) → List Ent) (h1 : ∀ e, bagF bs e deps = Ff e) (h2 : ∀ e, bagD bs e deps = L e)
  (k : ∀ (c : Ctx) (e : Nat → Value), (¬ dr → ¬ c.dr) → St n (Ff e ++ F) (Mm c (L e ++ H)) (wpList P ops (Exit.then (BagPost c H slot K) Q) [o])) : Hop P ops Q n F dr H bs ⟨slot, deps, K⟩ o := fun c e hd => by
 show St n (bagF bs e deps ++ F) (Mm c (bagD bs e deps ++ H)) _
 rw [h1, h2]; exact k c e hd
def Hops (P : Program) (ops : Array Oper) (Q : Exit → Act → World → Prop) (n : Nat) (F : Fr) (dr : Prop) (H : List Ent) (bs : List Bag) : List Bag → List Oper → Prop
 | [], [] => True
 | b :: l, o :: m => Hop P ops Q n F dr H bs b o ∧ Hops P ops Q n F dr H bs l m
 | _, _ => False
theorem Hops.nil {dr : Prop} {bs : List Bag} : Hops P ops Q n F dr H bs [] [] := trivial
theorem Hops.cons {dr : Prop} {bs l : List Bag} {b : Bag} {o : Oper} {m : List Oper} (h : Hop P ops Q n F dr H bs b o) (k : Hops P ops Q n F dr H bs l m) : Hops P ops Q n F dr H bs (b :: l) (o :: m) := ⟨h, k⟩
theorem Hops.at_ {dr : Prop} {bs : List Bag} : ∀ {l : List Bag} {m : List Oper}, Hops P ops Q n F dr H bs l m → l.length = m.length ∧ ∀ (i : Nat) (b : Bag) (o : Oper), l[i]? = some b → m[i]? = some o → Hop P ops Q n F dr H bs b o
 | [], [], _ => ⟨rfl, fun i b o h => by simp at h⟩
 | [], _ :: _, h => h.elim
 | _ :: _, [], h => h.elim
 | b :: l, o :: m, h => by
  obtain ⟨h1, h2⟩ := Hops.at_ h.2
  refine ⟨by simp [h1], fun i b' o' hb ho => ?_⟩
  cases i with
  | zero => simp at hb ho; subst hb ho; exact h.1
  | succ i => exact h2 i b' o' (by simpa using hb) (by simpa using ho)
def bagB (n lo : Nat) (ex : List Nat) (sd : List (Nat × List Nat)) (hd : List Oper) : Bool :=
 (sd.zip hd).all (fun p => p.2.guard.isNone && p.2.dst == some p.1.1 && Nat.ble (p.1.1 + 1) n && (Nat.ble lo p.1.1 || ex.contains p.1.1) && p.1.2.all (fun j => Nat.ble (j + 1) sd.length && p.2.after.any fun e => Region.binds .any e && e.on == j)) &&
  (sd.map (·.1)).Nodup
theorem wp_put {o : Oper} {a : Act} {w : World} {K : Act → World → Prop} (h : o.wp P a w K Q) : o.wp P a w (fun a' w' => K a' w' ∧ ((∃ v, a' = a.put o.dst v) ∨ a'.defers ≠ [])) Q := by
 unfold Oper.wp at *
 generalize (execOp a.eval o).run P w = r at *
 cases r with
 | ok nx w' =>
  cases nx <;> simp only [Oper.upon] at h ⊢
  case value u => exact ⟨h, .inl ⟨u, rfl⟩⟩
  case skip => exact ⟨h, .inl ⟨undef, rfl⟩⟩
  case defer d => exact ⟨h, .inr (by cases o.dst <;> simp [Act.put])⟩
  case enter f args =>
   refine Calls.mono h fun e w'' he => ?_
   cases e with
   | returned u => exact ⟨he, .inl ⟨u, rfl⟩⟩
   | panicked c => exact he
   | outgrown => exact he
  case row rw_ args => exact Rows.mono h fun u w'' he => ⟨he, .inl ⟨u, rfl⟩⟩
  all_goals exact h
 | halt x w' =>
  cases x <;> simp only [Oper.upon] at h ⊢
  all_goals exact h
theorem wpOp_putV {i : Nat} {o : Oper} (hi : ops[i]? = some o) (hg : o.guard = none) {a : Act} {w : World} {K : Act → World → Prop} (h : wpOp P ops Q i K a w) : wpOp P ops Q i (fun a' w' => K a' w' ∧ ((∃ v, a' = a.put o.dst v) ∨ a'.defers ≠ [])) a w := by
 unfold wpOp at *
 rw [hi] at h ⊢
 have hw : Region.wanted o (yielded ops a.tmps) = true := by unfold Region.wanted; rw [hg]
 simp only [hw, if_true] at h ⊢
 exact h.imp wp_put id
theorem countP_one {p q : Nat → Bool} {i : Nat} (hp : p i = true) (hq : q i = false) (h : ∀ j, j ≠ i → p j = q j) : ∀ m, i < m → (List.range m).countP p = (List.range m).countP q + 1 := by
 have eq : ∀ m, m ≤ i → (List.range m).countP p = (List.range m).countP q := by
  intro m hm
  refine List.countP_congr fun j hj => ?_
  have := List.mem_range.1 hj
  rw [h j (by omega)]
 intro m
 induction m with
 | zero => intro h; omega
 | succ m ih =>
  intro hm
  rw [List.range_succ, List.countP_append, List.countP_append, List.countP_singleton, List.countP_singleton]
  by_cases e : i = m
  ·subst e
   rw [eq i (Nat.le_refl _), hp, hq]; simp
  ·rw [ih (by omega), h m (Ne.symm e)]; omega
def unl (m : Nat) (listed : Array Bool) : Nat := (List.range m).countP fun j => !listed.getD j true
theorem MmR.restart {c : Ctx} {H : List Ent} {ρ : Ro} {w : World} (h : MmR c H ρ w) : MmR ⟨w, ρ, owns H, c.dr⟩ H ρ w :=
 ⟨rfl, ⟨rfl, fun _ => Nat.le_refl _⟩, rfl, Nat.le_refl _, fun _ _ _ => rfl, h.fits, Ro.le_refl _, fun _ _ _ => rfl, h.ents, fun E hE b hb => ⟨(h.own E hE b hb).1, .inr ⟨E, hE, hb⟩⟩, h.dis⟩
theorem look_key : ∀ {F : Fr} {t : Nat} {x : Value}, look F t = some x → t ∈ F.map (·.1)
 | [], _, _, h => by simp [look] at h
 | (k, u) :: F, t, x, h => by
  simp only [look] at h
  cases hb : Nat.beq t k with
  | true => rw [Nat.eq_of_beq_eq_true hb]; simp
  | false =>
   simp only [hb, cond_false] at h
   have := look_key h
   simp only [List.map_cons, List.mem_cons]; exact .inr this
def maskOf (acc : List Nat) (o : Oper) : Nat := o.after.toList.foldl (fun u e => if Region.binds .any e then u ||| (2 ^ e.on ||| acc.getD e.on 0) else u) 0
def masks : List Oper → List Nat → List Nat
 | [], acc => acc
 | o :: l, acc => masks l (acc ++ [maskOf acc o])
theorem maskOf_bit (acc : List Nat) (o : Oper) {j : Nat} (h : (maskOf acc o).testBit j = true) : ∃ e ∈ o.after, Region.binds .any e = true ∧ (e.on = j ∨ (acc.getD e.on 0).testBit j = true) := by
 have key : ∀ (l : List Edge) (u : Nat), (l.foldl (fun u e => if Region.binds .any e then u ||| (2 ^ e.on ||| acc.getD e.on 0) else u) u).testBit j = true → u.testBit j = true ∨ ∃ e ∈ l, Region.binds .any e = true ∧ (e.on = j ∨ (acc.getD e.on 0).testBit j = true) := by
  intro l
  induction l with
  | nil => intro u h; exact .inl h
  | cons e l ih =>
   intro u h
   rw [List.foldl_cons] at h
   rcases ih _ h with h1 | ⟨e', he, h1⟩
   ·split at h1
    ·rename_i hb
     rw [Nat.testBit_or, Nat.testBit_or, Bool.or_eq_true, Bool.or_eq_true, Nat.testBit_two_pow, decide_eq_true_eq] at h1
     rcases h1 with h1 | h1
     ·exact .inl h1
     ·exact .inr ⟨e, List.mem_cons_self .., hb, h1⟩
    ·exact .inl h1
   ·exact .inr ⟨e', List.mem_cons_of_mem _ he, h1⟩
 rcases key _ _ h with h1 | ⟨e, he, h1⟩
 ·rw [Nat.zero_testBit] at h1; cases h1
 ·exact ⟨e, by simpa using he, h1⟩
theorem masks_append : ∀ (l m : List Oper) (acc : List Nat), masks (l ++ m) acc = masks m (masks l acc)
 | [], _, _ => rfl
 | o :: l, m, acc => by rw [List.cons_append, masks, masks, masks_append l m]
theorem masks_len : ∀ (l : List Oper) (acc : List Nat), (masks l acc).length = acc.length + l.length
 | [], _ => rfl
 | o :: l, acc => by rw [masks, masks_len l]; simp; omega
theorem masks_pre : ∀ (l : List Oper) (acc : List Nat) (i : Nat), i < acc.length → (masks l acc)[i]? = acc[i]?
 | [], _, _, _ => rfl
 | o :: l, acc, i, h => by rw [masks, masks_pre l _ i (by simp; omega), List.getElem?_append_left h]
theorem masks_at {l : List Oper} {i : Nat} {o : Oper} (h : l[i]? = some o) : (masks l []).getD i 0 = maskOf (masks (l.take i) []) o := by
 have hi := (List.getElem?_eq_some_iff.1 h).1
 have e : masks l [] = masks (l.drop (i + 1)) (masks (l.take i) [] ++ [maskOf (masks (l.take i) []) o]) := by
  conv => lhs; rw [← List.take_append_drop i l]
  rw [masks_append, List.drop_eq_getElem_cons hi, masks]
  rw [List.getElem?_eq_getElem hi] at h
  rw [Option.some.inj h]
 have hl : (masks (l.take i) []).length = i := by rw [masks_len, List.length_take]; simp; omega
 rw [e, List.getD_eq_getElem?_getD, masks_pre _ _ _ (by simp [hl]), List.getElem?_append_right (by omega), hl, Nat.sub_self]
 rfl
theorem masks_take {l : List Oper} {i j : Nat} (h : j < i) (hi : i ≤ l.length) : (masks (l.take i) []).getD j 0 = (masks l []).getD j 0 := by
 have e : masks l [] = masks (l.drop i) (masks (l.take i) []) := by rw [← masks_append, List.take_append_drop]
 rw [e, List.getD_eq_getElem?_getD, List.getD_eq_getElem?_getD, masks_pre (l.drop i) (masks (l.take i) []) j (by rw [masks_len, List.length_take]; simp; omega)]
def tailB (l : List Oper) (m : Nat) : Bool :=
 ((List.range l.length).all fun i => match l[i]? with
  | some o => (o.after.all fun e => Nat.ble (e.on + 1) i) && (Nat.ble i m || o.after.any fun e => Region.binds .any e && e.on == i - 1)
  | none => false) && (Nat.ble l.length m || (masks l []).getD m 0 == 2 ^ m - 1)
theorem tailB_edge {l : List Oper} {m i : Nat} {o : Oper} (h : tailB l m = true) (ho : l[i]? = some o) : ∀ e ∈ o.after, e.on < i := by
 have hi := (List.getElem?_eq_some_iff.1 ho).1
 simp only [tailB, Bool.and_eq_true] at h
 have h1 := List.all_eq_true.1 h.1 i (List.mem_range.2 hi)
 simp only [ho, Bool.and_eq_true] at h1
 intro e he
 exact Nat.le_of_ble_eq_true ((Array.all_eq_true_iff_forall_mem.1 h1.1) e he)
theorem tailB_next {l : List Oper} {m i : Nat} {o : Oper} (h : tailB l m = true) (ho : l[i]? = some o) (hm : m < i) : ∃ e ∈ o.after, Region.binds .any e = true ∧ e.on = i - 1 := by
 have hi := (List.getElem?_eq_some_iff.1 ho).1
 simp only [tailB, Bool.and_eq_true] at h
 have h1 := List.all_eq_true.1 h.1 i (List.mem_range.2 hi)
 simp only [ho, Bool.and_eq_true, Bool.or_eq_true] at h1
 rcases h1.2 with h2 | h2
 ·have := Nat.le_of_ble_eq_true h2; omega
 ·obtain ⟨e, he, hb⟩ := Array.any_eq_true'.1 h2
  simp only [Bool.and_eq_true, beq_iff_eq] at hb
  exact ⟨e, he, hb.1, hb.2⟩
def ClosedL (l : List Oper) (listed : Array Bool) : Prop := ∀ i o, l[i]? = some o → listed.getD i false = true → ∀ e ∈ o.after, Region.binds .any e = true → listed.getD e.on false = true
theorem ClosedL.all {l : List Oper} {m : Nat} {listed : Array Bool} (hB : tailB l m = true) (hc : ClosedL l listed) : ∀ (i : Nat) (o : Oper), l[i]? = some o → (∀ e ∈ o.after, Region.binds .any e = true → listed.getD e.on false = true) → ∀ j, ((masks l []).getD i 0).testBit j = true → listed.getD j false = true := by
 intro i
 induction i using Nat.strongRecOn with
 | ind i ih =>
  intro o ho hall j hj
  have hi := (List.getElem?_eq_some_iff.1 ho).1
  rw [masks_at ho] at hj
  obtain ⟨e, he, hb, h1⟩ := maskOf_bit _ _ hj
  have hlt := tailB_edge hB ho e he
  have hl := hall e he hb
  rcases h1 with rfl | h1
  ·exact hl
  ·rw [masks_take hlt (by omega)] at h1
   have hoe : l[e.on]? = some l[e.on] := List.getElem?_eq_getElem (by omega)
   exact ih e.on hlt _ hoe (hc _ _ hoe hl) j h1
theorem wpAny_chainT {l : List Oper} {m : Nat} (hB : tailB l m = true) : ∀ (r : List Oper) (k : Nat) (listed : Array Bool) (a : Act) (w : World), m ≤ k → (∀ j : Nat, r[j]? = l[k + j]?) → k + r.length = l.length → upTo k listed l.length →
  wpList P l.toArray Q r a w → wpAny P .any l.toArray Q r.length listed a w
 | [], k, listed, a, w, _, _, hs, hu, h => by
  refine ⟨?_, h⟩
  unfold Region.ready
  rw [List.filter_eq_nil_iff]
  intro i hi
  have hi' := List.mem_range.1 hi
  simp only [List.size_toArray] at hi'
  have : listed.getD i true = true := by rw [hu.getD i true hi']; simp at hs; simp; omega
  simp [this]
 | o :: r, k, listed, a, w, hmk, hl, hs, hu, h => by
  have hk : k < l.length := by simp at hs; omega
  have ho : l[k]? = some o := by simpa using (hl 0).symm
  have hok : l.toArray[k]? = some o := by simpa using ho
  have hsz : listed.size = l.length := hu.1
  refine ⟨fun h0 => ?_, fun i hi => ?_⟩
  ·have : k ∈ Region.ready .any l.toArray listed := mem_ready.2 ⟨by rw [hu.getD k true hk]; simp, o, hok, fun e he _ => by
    have := tailB_edge hB ho e he
    rw [hu.getD e.on false (by omega)]; simp [this]⟩
   rw [h0] at this; cases this
  ·obtain ⟨hif, oi, hio, hall⟩ := mem_ready.1 hi
   have hil : i < l.length := by have := (Array.getElem?_eq_some_iff.1 hio).1; simpa using this
   have hio' : l[i]? = some oi := by simpa using hio
   rw [hu.getD i true hil] at hif
   have hki : k ≤ i := by simpa using hif
   have hik : i = k := by
    rcases Nat.lt_or_ge k i with h1 | h1
    ·obtain ⟨e, he, hb, hon⟩ := tailB_next hB hio' (by omega)
     have h2 := hall e he hb
     rw [hon, hu.getD (i - 1) _ (by omega)] at h2
     simp at h2; omega
    ·omega
   subst hik
   have ih := wpAny_chainT hB r (i + 1) (listed.setIfInBounds i true)
   have ih' : ∀ a w, wpList P l.toArray Q r a w → wpAny P .any l.toArray Q r.length (listed.setIfInBounds i true) a w := fun a w h =>
    ih a w (by omega) (fun j => by have := hl (j + 1); simpa [Nat.add_assoc, Nat.add_comm 1 j] using this) (by simp at hs ⊢; omega) hu.set h
   unfold wpOp
   rw [hok]
   simp only [wpList] at h
   simp only
   split
   ·rename_i hw
    simp only [hw, if_true] at h
    exact h.imp (Oper.wp_mono ih') id
   ·rename_i hw
    simp only [hw] at h
    exact ih' _ _ h
def Xok : Option (Nat × TypeId × Array Value) → Array Bool → (Nat → Value) → List Ent → Prop
 | none, _, _, X => X = []
 | some (ia, ta, Z), listed, e, X => (listed.getD ia false = true ∧ ∃ b, e ia = .pointer (some ⟨b, 0, none⟩) ∧ X = [blk b (.cells Z ta (0, 0))]) ∨ (listed.getD ia false = false ∧ X = [])
structure BagInv (al : Option (Nat × TypeId × Array Value)) (n : Nat) (F : Fr) (c : Ctx) (H : List Ent) (bs : List Bag) (listed : Array Bool) (a : Act) (w : World) (e : Nat → Value) (ρ : Ro) (X : List Ent) : Prop where
 has : Has n a F
 mem : MmR c (H ++ X) ρ w
 xok : Xok al listed e X
 got : ∀ (i : Nat) (b : Bag), bs[i]? = some b → listed.getD i false = true → a.tmps[b.slot]? = some (e i) ∧ (b.K (e i)).f ρ
theorem BagInv.use {al : Option (Nat × TypeId × Array Value)} {X : List Ent} {bs : List Bag} {listed : Array Bool} {a : Act} {w : World} {e : Nat → Value} {ρ : Ro} (h : BagInv al n F c H bs listed a w e ρ X) (ds : List Nat) (hd : ∀ j ∈ ds, j < bs.length ∧ listed.getD j false = true) :
  Has n a (bagF bs e ds ++ F) ∧ MmR c (bagD bs e ds ++ (H ++ X)) ρ w := by
 have gd : ∀ j, j < bs.length → bs[j]? = some (bs.getD j default) := fun j hj => by rw [List.getD_eq_getElem?_getD, List.getElem?_eq_getElem hj]; rfl
 constructor
 ·refine ⟨h.has.size, h.has.defers, fun t v hv => ?_⟩
  induction ds with
  | nil => exact h.has.slot t v hv
  | cons j ds ih =>
   simp only [bagF, List.map_cons, List.cons_append, look] at hv
   cases hb : Nat.beq t (bs.getD j default).slot with
   | true =>
    have e1 := Nat.eq_of_beq_eq_true hb
    simp only [hb, cond_true, Option.some.injEq] at hv
    subst hv
    obtain ⟨h1, h2⟩ := hd j (List.mem_cons_self ..)
    rw [e1]; exact (h.got j _ (gd j h1) h2).1
   | false =>
    simp only [hb, cond_false] at hv
    exact ih (fun k hk => hd k (List.mem_cons_of_mem _ hk)) hv
 ·have e1 : bagD bs e ds = (ds.map fun j => (bs.getD j default).K (e j)).map dat := by unfold bagD; rw [List.map_map]; rfl
  rw [e1]
  refine h.mem.dats _ fun d hd' => ?_
  obtain ⟨j, hj, rfl⟩ := List.mem_map.1 hd'
  obtain ⟨h1, h2⟩ := hd j hj
  exact (h.got j _ (gd j h1) h2).2
def AlOK (P : Program) (ops : Array Oper) (n : Nat) (bs : List Bag) : Option (Nat × TypeId × Array Value) → Prop
 | none => True
 | some (ia, ta, Z) => (∃ d ty pos after, ops[ia]? = some { dst := some d, op := .alloc ta, type := ty, pos := pos, after := after, guard := none } ∧ Nat.ble (d + 1) n = true) ∧ (P.info? ta).bind (fun i => i.zero.map Value.cells) = some Z ∧ (bs.getD ia default).K = (fun u => eqD u u)
def alE (al : Option (Nat × TypeId × Array Value)) (e : Nat → Value) (H : List Ent) (h : List Ent → Prop) : Prop := match al with
 | none => h H
 | some (ia, ta, Z) => ∀ b, e ia = .pointer (some ⟨b, 0, none⟩) → h (blk b (.cells Z ta (0, 0)) :: H)
theorem bag_go {al : Option (Nat × TypeId × Array Value)} {bs : List Bag} (hal : AlOK P ops n bs al) {hd tl : List Oper} {lo : Nat} {ex : List Nat} {sd : List (Nat × List Nat)} (hsd : bs.map (fun b => (b.slot, b.deps)) = sd) (hlo : F.all (fun p => Nat.ble (p.1 + 1) lo && !(ex.contains p.1)) = true) (hops : ops = (hd ++ tl).toArray) (hB : tailB (hd ++ tl) hd.length = true) (hb : bagB n lo ex sd hd = true) (hH : Hops P ops Q n F c.dr H bs bs hd) (need : List Nat) (hneed : need.all (fun j => Nat.ble (j + 1) sd.length) = true)
  (hia : ∀ ia ta Z, al = some (ia, ta, Z) → ia < hd.length)
  (htail : ∀ e, alE al e H fun H' => St n (bagF bs e need ++ F) (Mm c (bagD bs e need ++ H')) (wpList P ops Q tl)) :
  ∀ (f : Nat) (listed : Array Bool) (a : Act) (w : World) (e : Nat → Value) (ρ : Ro) (X : List Ent), listed.size = ops.size → ClosedL (hd ++ tl) listed → (∀ j, hd.length ≤ j → j < ops.size → listed[j]? = some false) → unl hd.length listed = f →
   BagInv al n F c H bs listed a w e ρ X → wpAny P .any ops Q (f + tl.length) listed a w := by
 obtain ⟨hlen, hat⟩ := hH.at_
 have hsz : ops.size = hd.length + tl.length := by rw [hops]; simp
 have hoph : ∀ i, i < hd.length → ops[i]? = hd[i]? := fun i hi => by rw [hops]; simp [List.getElem?_append_left hi]
 subst hsd
 simp only [bagB, Bool.and_eq_true, decide_eq_true_eq] at hb
 obtain ⟨hb1, hb2⟩ := hb
 rw [List.map_map] at hb2
 change (bs.map (·.slot)).Nodup at hb2
 rw [List.length_map] at hneed
 have hb1 := List.all_eq_true.1 hb1
 have each : ∀ (i : Nat) (b : Bag) (o : Oper), bs[i]? = some b → hd[i]? = some o → o.guard = none ∧ o.dst = some b.slot ∧ b.slot < n ∧ b.slot ∉ F.map (·.1) ∧ ∀ j ∈ b.deps, j < bs.length ∧ ∃ ed ∈ o.after, Region.binds .any ed = true ∧ ed.on = j := by
  intro i b o hbi ho
  have h1 := hb1 ((b.slot, b.deps), o) (List.mem_of_getElem? (i := i) (by rw [List.getElem?_zip_eq_some]; exact ⟨by rw [List.getElem?_map, hbi]; rfl, ho⟩))
  simp only [Bool.and_eq_true, Option.isNone_iff_eq_none, beq_iff_eq, Bool.not_eq_true'] at h1
  obtain ⟨⟨⟨⟨h1, h2⟩, h3⟩, h4⟩, h5⟩ := h1
  refine ⟨h1, h2, Nat.le_of_ble_eq_true h3, fun hm => (by
   obtain ⟨p, hp, he⟩ := List.mem_map.1 hm
   have q0 := List.all_eq_true.1 hlo p hp
   simp only [Bool.and_eq_true, Bool.not_eq_true'] at q0
   have q1 := Nat.le_of_ble_eq_true q0.1
   have q3 : p.1 = b.slot := he
   rcases Bool.or_eq_true _ _ |>.mp h4 with q2 | q2
   ·have q2 := Nat.le_of_ble_eq_true q2
    omega
   ·rw [q3] at q0; rw [q2] at q0; cases q0.2), fun j hj => ?_⟩
  have h6 := List.all_eq_true.1 h5 j hj
  simp only [Bool.and_eq_true] at h6
  obtain ⟨ed, he1, he2⟩ := Array.any_eq_true'.1 h6.2
  simp only [Bool.and_eq_true, beq_iff_eq] at he2
  exact ⟨by have := Nat.le_of_ble_eq_true h6.1; rwa [List.length_map] at this, ed, he1, he2.1, he2.2⟩
 intro f
 induction f with
 | zero =>
  intro listed a w e ρ X hs hcl htl hu hI
  have all : ∀ j, j < hd.length → listed[j]? = some true := fun j hj => by
   have h1 : ¬ 0 < unl hd.length listed := by omega
   unfold unl at h1
   rw [List.countP_pos_iff] at h1
   have hlt : j < listed.size := by omega
   cases hv : listed[j]? with
   | none => rw [Array.getElem?_eq_none_iff] at hv; omega
   | some b =>
    cases b with
    | true => rfl
    | false => exact absurd ⟨j, List.mem_range.2 hj, by rw [Array.getD_eq_getD_getElem?, hv]; rfl⟩ h1
  have hup : upTo hd.length listed ops.size := ⟨hs, fun j hj => by
   rcases Nat.lt_or_ge j hd.length with h | h
   ·rw [all j h]; simp [h]
   ·rw [htl j h hj]; simp [Nat.not_lt.2 h]⟩
  rw [Nat.zero_add]
  rw [hops] at hup ⊢
  refine wpAny_chainT hB tl hd.length listed a w (Nat.le_refl _) (fun j => by simp [List.getElem?_append_right]) (by simp) (by simpa using hup) ?_
  rw [← hops]
  obtain ⟨h1, h2⟩ := hI.use need fun j hj => by
   have h3 := Nat.le_of_ble_eq_true (List.all_eq_true.1 hneed j hj)
   exact ⟨h3, by rw [Array.getD_eq_getD_getElem?, all j (by omega)]; rfl⟩
  have ht := htail e
  have hx := hI.xok
  cases al with
  | none =>
   have hx : X = [] := hx
   subst hx
   exact ht a w h1 (Mm.mk (by rw [List.append_nil] at h2; exact h2))
  | some q =>
   obtain ⟨ia, ta, Z⟩ := q
   have hl : listed.getD ia false = true := by rw [Array.getD_eq_getD_getElem?, all ia (hia ia ta Z rfl)]; rfl
   rcases hx with ⟨_, b, hb, rfl⟩ | ⟨hb, _⟩
   ·exact ht b hb a w h1 (Mm.mk (h2.perm (List.Perm.append_left _ (List.perm_append_comm (l₁ := H) (l₂ := [blk b (.cells Z ta (0, 0))])))))
   ·rw [hl] at hb; cases hb
 | succ f ih =>
  intro listed a w e ρ X hs hcl htl hu hI
  have hex : ∃ j, j < hd.length ∧ listed.getD j true = false := by
   have h1 : 0 < unl hd.length listed := by omega
   unfold unl at h1
   rw [List.countP_pos_iff] at h1
   obtain ⟨j, hj, h⟩ := h1
   exact ⟨j, List.mem_range.1 hj, by simpa using h⟩
  rw [show f + 1 + tl.length = (f + tl.length) + 1 by omega]
  refine ⟨fun h0 => ?_, fun i hi => ?_⟩
  ·obtain ⟨j, hj, hjf⟩ := hex
   exact absurd h0 (head_ready_ne hs (fun i o ho => tailB_edge hB (by rw [hops] at ho; simpa using ho)) ⟨j, by omega, hjf⟩)
  ·obtain ⟨hif, o, hio, hall⟩ := mem_ready.1 hi
   have hiN : i < ops.size := (Array.getElem?_eq_some_iff.1 hio).1
   have him : i < hd.length := by
    rcases Nat.lt_or_ge i hd.length with h | h
    ·exact h
    ·obtain ⟨j, hj, hjf⟩ := hex
     exfalso
     have hio' : (hd ++ tl)[i]? = some o := by rw [hops] at hio; simpa using hio
     rcases Nat.lt_or_ge hd.length i with h2 | h2
     ·obtain ⟨ed, he1, he2, he3⟩ := tailB_next hB hio' h2
      have h1 := hall ed he1 he2
      rw [he3] at h1
      have h3 := htl (i - 1) (by omega) (by omega)
      rw [Array.getD_eq_getD_getElem?, h3] at h1
      cases h1
     ·obtain rfl : i = hd.length := by omega
      have hfull : (masks (hd ++ tl) []).getD hd.length 0 = 2 ^ hd.length - 1 := by
       simp only [tailB, Bool.and_eq_true, Bool.or_eq_true] at hB
       rcases hB.2 with h3 | h3
       ·have := Nat.le_of_ble_eq_true h3
        have hlt := (List.getElem?_eq_some_iff.1 hio').1
        omega
       ·simpa using h3
      have h1 := hcl.all hB _ o hio' (fun ed he1 he2 => by
       have h3 := hall ed he1 he2
       have hlt := tailB_edge hB hio' ed he1
       rw [Array.getD_eq_getD_getElem?, Array.getElem?_eq_getElem (show ed.on < listed.size by omega)] at h3 ⊢
       simpa using h3) j (by rw [hfull, Nat.testBit_two_pow_sub_one]; simpa using hj)
      have hlt : j < listed.size := by omega
      rw [Array.getD_eq_getD_getElem?, Array.getElem?_eq_getElem hlt] at h1 hjf
      simp at h1 hjf
      rw [h1] at hjf; cases hjf
   have hho : hd[i]? = some o := by rw [← hoph i him]; exact hio
   have hbi : bs[i]? = some (bs[i]'(by omega)) := List.getElem?_eq_getElem (by omega)
   generalize bs[i]'(by omega) = b at hbi
   obtain ⟨g1, g2, g3, g4, g5⟩ := each i b o hbi hho
   have hop := hat i b o hbi hho
   obtain ⟨u1, u2⟩ := hI.use b.deps fun j hj => by
    obtain ⟨q1, ed, q2, q3, q4⟩ := g5 j hj
    refine ⟨q1, ?_⟩
    have h1 := hall ed q2 q3
    rw [q4] at h1
    have hlt : j < listed.size := by omega
    rw [Array.getD_eq_getD_getElem?, Array.getElem?_eq_getElem hlt] at h1 ⊢
    simpa using h1
   have hlt : i < listed.size := by omega
   have hcnt : unl hd.length (listed.setIfInBounds i true) = f := by
    have h1 := countP_one (p := fun j => !listed.getD j true) (q := fun j => !(listed.setIfInBounds i true).getD j true) (i := i) (by simp [hif]) (by simp [Array.getD_eq_getD_getElem?, hlt]) (fun j hj => by
     simp only [Array.getD_eq_getD_getElem?, Array.getElem?_setIfInBounds]; rw [if_neg (Ne.symm hj)]) hd.length him
    unfold unl at hu ⊢
    omega
   have htl2 : ∀ j, hd.length ≤ j → j < ops.size → (listed.setIfInBounds i true)[j]? = some false := fun j hj hjN => by
    rw [Array.getElem?_setIfInBounds, if_neg (by omega)]; exact htl j hj hjN
   have other : ∀ j, j ≠ i → (listed.setIfInBounds i true).getD j false = listed.getD j false := fun j hj => by
    rw [Array.getD_eq_getD_getElem?, Array.getD_eq_getD_getElem?, Array.getElem?_setIfInBounds, if_neg (Ne.symm hj)]
   have hcl2 : ClosedL (hd ++ tl) (listed.setIfInBounds i true) := fun j oj hj hlj ed he hb => by
    have hne : ed.on ≠ i → (listed.setIfInBounds i true).getD ed.on false = listed.getD ed.on false := fun h => other _ h
    have hself : (listed.setIfInBounds i true).getD i false = true := by rw [Array.getD_eq_getD_getElem?, Array.getElem?_setIfInBounds, if_pos rfl, if_pos hlt]; rfl
    by_cases e1 : ed.on = i
    ·rw [e1]; exact hself
    ·rw [hne e1]
     by_cases e2 : j = i
     ·subst e2
      have : oj = o := by
       have q : (hd ++ tl)[j]? = some o := by rw [hops] at hio; simpa using hio
       rw [q] at hj; exact (Option.some.inj hj).symm
      subst this
      have h3 := hall ed he hb
      have hlt2 := tailB_edge hB hj ed he
      rw [Array.getD_eq_getD_getElem?, Array.getElem?_eq_getElem (show ed.on < listed.size by omega)] at h3 ⊢
      simpa using h3
     ·rw [other _ e2] at hlj
      exact hcl j oj hj hlj ed he hb
   have has' : ∀ v, Has n (a.put (some b.slot) v) F := fun v => by
    refine ⟨by simp [Act.put, hI.has.size], by simp [Act.put, hI.has.defers], fun t x hx => ?_⟩
    have hne : b.slot ≠ t := fun h => g4 (h ▸ look_key hx)
    simp [Act.put, hne, hI.has.slot t x hx]
   have got' : ∀ (v : Value) (ρ' : Ro), Ro.le ρ ρ' → (b.K v).f ρ' → ∀ (j : Nat) (bj : Bag), bs[j]? = some bj → (listed.setIfInBounds i true).getD j false = true →
     (a.put (some b.slot) v).tmps[bj.slot]? = some (if j = i then v else e j) ∧ (bj.K (if j = i then v else e j)).f ρ' := fun v ρ' hle hKv j bj hbj hlj => by
    by_cases e1 : j = i
    ·subst e1
     rw [hbi] at hbj; cases hbj
     have hsl : b.slot < a.tmps.size := by rw [hI.has.size]; exact g3
     refine ⟨by rw [if_pos rfl]; simp [Act.put, hsl], by rw [if_pos rfl]; exact hKv⟩
    ·rw [if_neg e1]
     rw [other j e1] at hlj
     obtain ⟨k1, k2⟩ := hI.got j bj hbj hlj
     refine ⟨?_, (bj.K (e j)).mono ρ ρ' hle k2⟩
     have hne : b.slot ≠ bj.slot := fun h => by
      have q1 : (bs.map (·.slot))[i]? = some b.slot := by rw [List.getElem?_map, hbi]; rfl
      have q2 : (bs.map (·.slot))[j]? = some bj.slot := by rw [List.getElem?_map, hbj]; rfl
      have := (List.getElem?_inj (i := i) (j := j) (by rw [List.length_map]; omega) hb2).1 (by rw [q1, q2, h])
      exact e1 this.symm
     simp [Act.put, hne, k1]
   have r0 : MmR ⟨w, ρ, owns H, c.dr⟩ H ρ w := (hI.mem.left).restart
   by_cases hali : ∃ ta Z, al = some (i, ta, Z)
   ·obtain ⟨ta, Z, rfl⟩ := hali
    obtain ⟨⟨d0, ty0, pos0, af0, hop0, hd0⟩, hz, hK⟩ := hal
    rw [hio] at hop0
    have ho : o = { dst := some d0, op := .alloc ta, type := ty0, pos := pos0, after := af0, guard := none } := Option.some.inj hop0
    have hd1 : d0 = b.slot := by rw [ho] at g2; exact Option.some.inj g2
    have hX0 : X = [] := by
     rcases hI.xok with ⟨hx, _⟩ | ⟨_, hx⟩
     ·rw [Array.getD_eq_getD_getElem?, Array.getElem?_eq_getElem hlt] at hif hx
      simp at hif hx
      rw [hif] at hx; cases hx
     ·exact hx
    subst hX0
    have k1 : wpOp P ops Q i (fun a' w' => a'.defers = [] ∧ ∃ b0, a'.tmps[b.slot]? = some (.pointer (some ⟨b0, 0, none⟩)) ∧ Mm ⟨w, ρ, owns H, c.dr⟩ (blk b0 (.cells Z ta (0, 0)) :: H) w') a w := by
     refine St.one (n := n) (F := F) (A := Mm ⟨w, ρ, owns H, c.dr⟩ H) hio ?_ a w hI.has (Mm.mk r0)
     rw [ho]
     refine St.alloc hz hd0 (fun b0 => St.nil (St.then_normal fun a' w' ha' hw' => ⟨ha'.defers, b0, ?_, hw'⟩))
     rw [← hd1]
     exact ha'.slot _ _ (by simp [look])
    refine wpOp_mono (fun a' w' hk => ?_) (wpOp_putV hio g1 k1)
    obtain ⟨⟨hdf, b0, hu', hm'⟩, hput⟩ := hk
    rcases hput with ⟨v, rfl⟩ | hbad
    ·obtain ⟨ρ', hm'⟩ := hm'.out
     have hstep : MmR c (H ++ [blk b0 (.cells Z ta (0, 0))]) ρ' w' := by
      have := MmR.step (R := []) hI.mem hm'
      rw [List.append_nil] at this
      exact this.perm (List.perm_append_comm (l₁ := [blk b0 (.cells Z ta (0, 0))]) (l₂ := H))
     rw [g2] at hu' ⊢
     have huv : v = .pointer (some ⟨b0, 0, none⟩) := by
      have : b.slot < a.tmps.size := by rw [hI.has.size]; exact g3
      simpa [Act.put, this] using hu'
     have hKb : b.K = fun u => eqD u u := by
      have : bs.getD i default = b := by rw [List.getD_eq_getElem?_getD, hbi]; rfl
      rw [← this]; exact hK
     refine ih (listed.setIfInBounds i true) _ w' (fun k => if k = i then v else e k) ρ' _ (by simp [hs]) hcl2 htl2 hcnt ⟨has' v, hstep, .inl ⟨?_, b0, ?_, rfl⟩, got' v ρ' hm'.le ?_⟩
     ·rw [Array.getD_eq_getD_getElem?, Array.getElem?_setIfInBounds, if_pos rfl, if_pos hlt]; rfl
     ·show (if i = i then v else e i) = _
      rw [if_pos rfl]; exact huv
     ·rw [hKb]; exact rfl
    ·exact absurd hdf hbad
   ·have k1 := St.one (i := i) hio (hop ⟨w, ρ, owns H, c.dr⟩ e (fun h => h)) a w u1 (Mm.mk (by
     have e1 : bagD bs e b.deps = (b.deps.map fun j => (bs.getD j default).K (e j)).map dat := by unfold bagD; rw [List.map_map]; rfl
     rw [e1]
     refine r0.dats _ fun d hd' => ?_
     have := u2.ents (dat d) (List.mem_append_left _ (by rw [e1]; exact List.mem_map_of_mem hd'))
     exact dat_ok.1 this))
    refine wpOp_mono (fun a' w' hk => ?_) (wpOp_putV hio g1 k1)
    obtain ⟨⟨hdf, u, hu', hm'⟩, hput⟩ := hk
    rcases hput with ⟨v, rfl⟩ | hbad
    ·obtain ⟨ρ', hm'⟩ := hm'.out
     have hKu : (b.K u).f ρ' := dat_ok.1 (hm'.ents _ (List.mem_cons_self ..))
     have hstep : MmR c (H ++ X) ρ' w' := MmR.step hI.mem hm'.drop
     rw [g2] at hu' ⊢
     have huv : v = u := by
      have : b.slot < a.tmps.size := by rw [hI.has.size]; exact g3
      simpa [Act.put, this] using hu'
     subst huv
     refine ih (listed.setIfInBounds i true) _ w' (fun k => if k = i then v else e k) ρ' X (by simp [hs]) hcl2 htl2 hcnt ⟨has' v, hstep, ?_, got' v ρ' hm'.le hKu⟩
     have hx := hI.xok
     cases al with
     | none => exact hx
     | some q =>
      obtain ⟨ia, ta, Z⟩ := q
      have hne : ia ≠ i := fun h => hali ⟨ta, Z, by rw [h]⟩
      rcases hx with ⟨h1, b0, h2, h3⟩ | ⟨h1, h2⟩
      ·refine .inl ⟨by rw [other ia hne]; exact h1, b0, ?_, h3⟩
       show (if ia = i then v else e ia) = _
       rw [if_neg hne]; exact h2
      ·exact .inr ⟨by rw [other ia hne]; exact h1, h2⟩
    ·exact absurd hdf hbad
theorem St.bagX {id : Nat} (al : Option (Nat × TypeId × Array Value)) (m lo : Nat) (ex : List Nat) {l : List Oper} (bs : List Bag) (sd : List (Nat × List Nat)) (need : List Nat) (hal : AlOK P l.toArray n bs al) (hia : ∀ ia ta Z, al = some (ia, ta, Z) → ia < (l.take m).length) (hsd : bs.map (fun b => (b.slot, b.deps)) = sd) (hlo : F.all (fun p => Nat.ble (p.1 + 1) lo && !(ex.contains p.1)) = true) (hm : P.follows .mixedOrders = true) (hB : tailB l (l.take m).length = true) (hb : bagB n lo ex sd (l.take m) = true) (hneed : need.all (fun j => Nat.ble (j + 1) sd.length) = true)
  (hH : Hops P l.toArray Q n F c.dr H bs bs (l.take m)) (htail : ∀ e, alE al e H fun H' => St n (bagF bs e need ++ F) (Mm c (bagD bs e need ++ H')) (wpList P l.toArray Q (l.drop m))) :
  St n F (Mm c H) ((Code.region id l.toArray true).wp P Q) := by
 intro a w ha hw
 refine wp_region_any hm ?_
 have hw' := (Mm.drawn c H) w hw
 obtain ⟨ρ, hr⟩ := hw'.out
 have hlen : l.length = (l.take m).length + (l.drop m).length := by rw [← List.length_append, List.take_append_drop]
 have no : ∀ i, (Array.replicate l.length false).getD i false = false := fun i => by
  rw [Array.getD_eq_getD_getElem?, Array.getElem?_replicate]; split <;> rfl
 have h0 := bag_go (ops := l.toArray) (hd := l.take m) (tl := l.drop m) hal hsd hlo (by rw [List.take_append_drop]) (by rw [List.take_append_drop]; exact hB) hb hH need hneed hia htail (unl (l.take m).length (Array.replicate l.length false)) (Array.replicate l.length false) a { w with drawn := w.drawn + 1 } (fun _ => undef) ρ [] (by simp) (fun i _ _ hl => by rw [no] at hl; cases hl) (fun j hj hjN => by
  rw [Array.getElem?_replicate, if_pos (by simpa using hjN)]) rfl ⟨ha, by rw [List.append_nil]; exact hr, by
   cases al with
   | none => exact rfl
   | some q => exact .inr ⟨no _, rfl⟩, fun i b _ hl => by rw [no] at hl; cases hl⟩
 have hu : unl (l.take m).length (Array.replicate l.length false) = (l.take m).length := by
  unfold unl
  rw [List.countP_eq_length.2, List.length_range]
  intro j hj
  have := List.mem_range.1 hj
  rw [Array.getD_eq_getD_getElem?, Array.getElem?_replicate, if_pos (by omega)]; rfl
 rw [hu, ← hlen] at h0
 simpa using h0
theorem St.app5 {T : Act → World → Prop} {a b d e f : Ent} (h : St n F (Mm c (a :: b :: d :: e :: f :: R)) T) : St n F (Mm c ([a, b, d, e, f] ++ R)) T := h
theorem St.app6 {T : Act → World → Prop} {a b d e f g : Ent} (h : St n F (Mm c (a :: b :: d :: e :: f :: g :: R)) T) : St n F (Mm c ([a, b, d, e, f, g] ++ R)) T := h
theorem St.bag {id : Nat} (m lo : Nat) (ex : List Nat) {l : List Oper} (bs : List Bag) (sd : List (Nat × List Nat)) (need : List Nat) (hsd : bs.map (fun b => (b.slot, b.deps)) = sd) (hlo : F.all (fun p => Nat.ble (p.1 + 1) lo && !(ex.contains p.1)) = true) (hm : P.follows .mixedOrders = true) (hB : tailB l (l.take m).length = true) (hb : bagB n lo ex sd (l.take m) = true) (hneed : need.all (fun j => Nat.ble (j + 1) sd.length) = true)
  (Ft : (Nat → Value) → Fr) (Lt : (Nat → Value) → List Ent) (t1 : ∀ e, bagF bs e need = Ft e) (t2 : ∀ e, bagD bs e need = Lt e)
  (hH : Hops P l.toArray Q n F c.dr H bs bs (l.take m)) (htail : ∀ e, St n (Ft e ++ F) (Mm c (Lt e ++ H)) (wpList P l.toArray Q (l.drop m))) :
  St n F (Mm c H) ((Code.region id l.toArray true).wp P Q) := St.bagX none m lo ex bs sd need trivial (fun _ _ _ h => by cases h) hsd hlo hm hB hb hneed hH (fun e => by show St _ _ _ _; rw [t1, t2]; exact htail e)
theorem St.bagA {id : Nat} (ia : Nat) {ta : TypeId} {Z : Array Value} {d0 ty0 : Nat} {pos0 : String} {af0 : Array Edge} (m lo : Nat) (ex : List Nat) {l : List Oper} (bs : List Bag) (sd : List (Nat × List Nat)) (need : List Nat)
  (hop : l.toArray[ia]? = some { dst := some d0, op := .alloc ta, type := ty0, pos := pos0, after := af0, guard := none }) (hd0 : Nat.ble (d0 + 1) n = true) (hz : (P.info? ta).bind (fun i => i.zero.map Value.cells) = some Z) (hK : (bs.getD ia default).K = (fun u => eqD u u)) (hia : Nat.ble (ia + 1) (l.take m).length = true)
  (hsd : bs.map (fun b => (b.slot, b.deps)) = sd) (hlo : F.all (fun p => Nat.ble (p.1 + 1) lo && !(ex.contains p.1)) = true) (hm : P.follows .mixedOrders = true) (hB : tailB l (l.take m).length = true) (hb : bagB n lo ex sd (l.take m) = true) (hneed : need.all (fun j => Nat.ble (j + 1) sd.length) = true)
  (Ft : (Nat → Value) → Fr) (Lt : (Nat → Value) → List Ent) (t1 : ∀ e, bagF bs e need = Ft e) (t2 : ∀ e, bagD bs e need = Lt e)
  (hH : Hops P l.toArray Q n F c.dr H bs bs (l.take m)) (htail : ∀ e b, e ia = .pointer (some ⟨b, 0, none⟩) → St n (Ft e ++ F) (Mm c (Lt e ++ (blk b (.cells Z ta (0, 0)) :: H))) (wpList P l.toArray Q (l.drop m))) :
  St n F (Mm c H) ((Code.region id l.toArray true).wp P Q) :=
 St.bagX (some (ia, ta, Z)) m lo ex bs sd need ⟨⟨d0, ty0, pos0, af0, hop, hd0⟩, hz, hK⟩ (fun i _ _ h => by cases h; exact Nat.le_of_ble_eq_true hia) hsd hlo hm hB hb hneed hH (fun e b hb => by rw [t1, t2]; exact htail e b hb)
end
end Go.J

/-
  (YtolmidffiegkaaaDoorJ27)
  Values that read as types, terms, graphs, trees, rules, entries: facts on a value alone.
  Conditions: none; everything holds of any program.
-/
namespace Go.J
open Go Go.Proofs.YtolmidffiegkaaaDoor
abbrev simV (x : SimD) : Value := .agg #[sv x.base, x.av.1]
abbrev termV (x : TermD) : Value := .agg #[iv x.kind, sv x.name, iv x.index, sv x.type.base, x.type.av.1, x.av.1]
abbrev treeV (x : TreeD) : Value := .agg #[iv x.rule, iv x.lex, x.kv.1]
abbrev graphV (x : GraphD) : Value := .agg #[x.nv.1]
abbrev ruleV (x : RuleD) : Value := .agg #[sv x.name, x.graph.nv.1, iv x.kids, iv x.weight, iv x.mean.kind, sv x.mean.name, iv x.mean.index, sv x.mean.type.base, x.mean.type.av.1, x.mean.av.1]
abbrev lexV (x : LexD) : Value := .agg #[sv x.word, x.graph.nv.1, iv x.weight, iv x.mean.kind, sv x.mean.name, iv x.mean.index, sv x.mean.type.base, x.mean.type.av.1, x.mean.av.1]
abbrev grmV (g : GrmD) : Value := .agg #[g.tv.1, g.fv.1, g.rv.1, g.xv.1, g.start.nv.1]
def isSim (s : Sm0) (u : Value) : Dat := ⟨fun ρ => ∃ x : SimD, u = simV x ∧ simE x = s ∧ simR.wf x ∧ SimOK ρ x, fun _ _ h ⟨x, a, b, c, d⟩ => ⟨x, a, b, c, d.mono h⟩⟩
def isTerm (t : Tm0) (u : Value) : Dat := ⟨fun ρ => ∃ x : TermD, u = termV x ∧ termE x = t ∧ termR.wf x ∧ TermOK ρ x, fun _ _ h ⟨x, a, b, c, d⟩ => ⟨x, a, b, c, d.mono h⟩⟩
def isGraph (g : Gr0) (u : Value) : Dat := ⟨fun ρ => ∃ x : GraphD, u = graphV x ∧ grE x = g ∧ (graphD x).f ρ, fun _ _ h ⟨x, a, b, c⟩ => ⟨x, a, b, (graphD x).mono _ _ h c⟩⟩
def isRule (r : Ru0) (u : Value) : Dat := ⟨fun ρ => ∃ x : RuleD, u = ruleV x ∧ ruE x = r ∧ ruleR.wf x ∧ (ruleD x).f ρ, fun _ _ h ⟨x, a, b, c, d⟩ => ⟨x, a, b, c, (ruleD x).mono _ _ h d⟩⟩
def isGrm (g : Gm0) (u : Value) : Dat := ⟨fun ρ => ∃ x : GrmD, u = grmV x ∧ gmE x = g ∧ (grmD x).f ρ, fun _ _ h ⟨x, a, b, c⟩ => ⟨x, a, b, (grmD x).mono _ _ h c⟩⟩
def isTerms (ts : List Tm0) (u : Value) : Dat := ⟨fun ρ => u.oneCell' = true ∧ ∃ xs : List TermD, xs.map termE = ts ∧ (sl termR u xs).f ρ ∧ (dall termD xs).f ρ, fun _ _ h ⟨a, xs, b, c, d⟩ => ⟨a, xs, b, (sl _ _ _).mono _ _ h c, (dall _ _).mono _ _ h d⟩⟩
def isRules (rs : List Ru0) (u : Value) : Dat := ⟨fun ρ => u.oneCell' = true ∧ ∃ xs : List RuleD, xs.map ruE = rs ∧ (sl ruleR u xs).f ρ ∧ (dall ruleD xs).f ρ, fun _ _ h ⟨a, xs, b, c, d⟩ => ⟨a, xs, b, (sl _ _ _).mono _ _ h c, (dall _ _).mono _ _ h d⟩⟩
def isSl {α : Type} (R : Rp α) (xs : List α) (u : Value) : Dat := ⟨fun ρ => u.oneCell' = true ∧ (sl R u xs).f ρ, fun _ _ h ⟨a, b⟩ => ⟨a, (sl _ _ _).mono _ _ h b⟩⟩
def isNsl {α : Type} (R : Rp α) (xs : List (List α)) (u : Value) : Dat := ⟨fun ρ => u.oneCell' = true ∧ (nsl R u xs).f ρ, fun _ _ h ⟨a, b⟩ => ⟨a, (nsl _ _ _).mono _ _ h b⟩⟩
section
variable {n : Nat} {F : Fr} {c : Ctx} {H R : List Ent} {T : Act → World → Prop}
theorem St.eqSlot {P : Program} (k : Nat) (u v : Value) [hd : InD (eqD u v) H] (hk : look F k = some u) (h : St n ((k, v) :: F) (Mm c H) T) : St n F (Mm c H) T := by
 intro a w ha hw
 obtain ⟨ρ, hm⟩ := hw.out
 have e : u = v := dat_ok.1 (hm.ents _ hd.mem)
 subst e
 refine h a w ⟨ha.size, ha.defers, fun t x hx => ?_⟩ hw
 simp only [look] at hx
 cases hb : Nat.beq t k with
 | true =>
  rw [Nat.eq_of_beq_eq_true hb]
  simp only [hb, cond_true, Option.some.injEq] at hx
  subst hx; exact ha.slot _ _ hk
 | false => simp only [hb, cond_false] at hx; exact ha.slot _ _ hx
theorem St.openP {ι : Sort _} (d : Dat) [hd : InD d H] (p : ι → Prop) (L : ι → List Dat) (h : ∀ ρ, d.f ρ → ∃ x, p x ∧ ∀ e ∈ L x, e.f ρ) (k : ∀ x, p x → St n F (Mm c ((L x).map dat ++ H)) T) : St n F (Mm c H) T := by
 intro a w ha hw
 obtain ⟨ρ, hm⟩ := hw.out
 obtain ⟨x, hp, hx⟩ := h ρ (dat_ok.1 (hm.ents _ hd.mem))
 exact k x hp a w ha (Mm.mk (hm.dats (L x) hx))
theorem St.isSim (s : Sm0) (u : Value) [hd : InD (J.isSim s u) H] (k : ∀ x : SimD, u = simV x ∧ simE x = s ∧ simR.wf x → St n F (Mm c (dat (simD x) :: H)) T) : St n F (Mm c H) T :=
 St.openP (J.isSim s u) _ (fun x => [simD x]) (fun ρ ⟨x, a, b, c, d⟩ => ⟨x, ⟨a, b, c⟩, fun e he => by rw [List.mem_singleton.1 he]; exact d⟩) k
theorem St.isTerm (t : Tm0) (u : Value) [hd : InD (J.isTerm t u) H] (k : ∀ x : TermD, u = termV x ∧ termE x = t ∧ termR.wf x → St n F (Mm c (dat (termD x) :: H)) T) : St n F (Mm c H) T :=
 St.openP (J.isTerm t u) _ (fun x => [termD x]) (fun ρ ⟨x, a, b, c, d⟩ => ⟨x, ⟨a, b, c⟩, fun e he => by rw [List.mem_singleton.1 he]; exact d⟩) k
theorem St.isGraph (g : Gr0) (u : Value) [hd : InD (J.isGraph g u) H] (k : ∀ x : GraphD, u = graphV x ∧ grE x = g → St n F (Mm c (dat (graphD x) :: H)) T) : St n F (Mm c H) T :=
 St.openP (J.isGraph g u) _ (fun x => [graphD x]) (fun ρ ⟨x, a, b, c⟩ => ⟨x, ⟨a, b⟩, fun e he => by rw [List.mem_singleton.1 he]; exact c⟩) k
theorem St.isRule (r : Ru0) (u : Value) [hd : InD (J.isRule r u) H] (k : ∀ x : RuleD, u = ruleV x ∧ ruE x = r ∧ ruleR.wf x → St n F (Mm c (dat (ruleD x) :: H)) T) : St n F (Mm c H) T :=
 St.openP (J.isRule r u) _ (fun x => [ruleD x]) (fun ρ ⟨x, a, b, c, d⟩ => ⟨x, ⟨a, b, c⟩, fun e he => by rw [List.mem_singleton.1 he]; exact d⟩) k
theorem St.isGrm (g : Gm0) (u : Value) [hd : InD (J.isGrm g u) H] (k : ∀ x : GrmD, u = grmV x ∧ gmE x = g → St n F (Mm c (dat (grmD x) :: H)) T) : St n F (Mm c H) T :=
 St.openP (J.isGrm g u) _ (fun x => [grmD x]) (fun ρ ⟨x, a, b, c⟩ => ⟨x, ⟨a, b⟩, fun e he => by rw [List.mem_singleton.1 he]; exact c⟩) k
theorem St.isTerms (ts : List Tm0) (u : Value) [hd : InD (J.isTerms ts u) H] (k : ∀ xs : List TermD, u.oneCell' = true ∧ xs.map termE = ts → St n F (Mm c (dat (sl termR u xs) :: dat (dall termD xs) :: H)) T) : St n F (Mm c H) T :=
 St.openP (J.isTerms ts u) _ (fun xs => [sl termR u xs, dall termD xs]) (fun ρ ⟨a, xs, b, c, d⟩ => ⟨xs, ⟨a, b⟩, fun e he => by
  simp only [List.mem_cons, List.not_mem_nil, or_false] at he
  rcases he with rfl | rfl
  ·exact c
  ·exact d⟩) k
theorem St.isRules (ts : List Ru0) (u : Value) [hd : InD (J.isRules ts u) H] (k : ∀ xs : List RuleD, u.oneCell' = true ∧ xs.map ruE = ts → St n F (Mm c (dat (sl ruleR u xs) :: dat (dall ruleD xs) :: H)) T) : St n F (Mm c H) T :=
 St.openP (J.isRules ts u) _ (fun xs => [sl ruleR u xs, dall ruleD xs]) (fun ρ ⟨a, xs, b, c, d⟩ => ⟨xs, ⟨a, b⟩, fun e he => by
  simp only [List.mem_cons, List.not_mem_nil, or_false] at he
  rcases he with rfl | rfl
  ·exact c
  ·exact d⟩) k
theorem St.isSl {α : Type} (Rr : Rp α) (xs : List α) (u : Value) [hd : InD (J.isSl Rr xs u) H] (k : u.oneCell' = true → St n F (Mm c (dat (sl Rr u xs) :: H)) T) : St n F (Mm c H) T :=
 St.openP (ι := Unit) (J.isSl Rr xs u) (fun _ => u.oneCell' = true) (fun _ => [sl Rr u xs]) (fun ρ ⟨a, b⟩ => ⟨(), a, fun e he => by rw [List.mem_singleton.1 he]; exact b⟩) fun _ => k
theorem St.isNsl {α : Type} (Rr : Rp α) (xs : List (List α)) (u : Value) [hd : InD (J.isNsl Rr xs u) H] (k : u.oneCell' = true → St n F (Mm c (dat (nsl Rr u xs) :: H)) T) : St n F (Mm c H) T :=
 St.openP (ι := Unit) (J.isNsl Rr xs u) (fun _ => u.oneCell' = true) (fun _ => [nsl Rr u xs]) (fun ρ ⟨a, b⟩ => ⟨(), a, fun e he => by rw [List.mem_singleton.1 he]; exact b⟩) fun _ => k
theorem St.mkSim (b : Str) (u : Value) (hu : u.oneCell' = true) (l : List SimD) [h1 : InD (sl simR u l) H] [h2 : InD (dall simD l) H] (k : St n F (Mm c (dat (simD (.mk b ⟨u, hu⟩ l)) :: H)) T) : St n F (Mm c H) T :=
 St.mkD (simD (.mk b ⟨u, hu⟩ l)) [sl simR u l, dall simD l] (fun ρ h => .mk (h _ (List.mem_cons_self ..)) (h _ (List.mem_cons_of_mem _ (List.mem_cons_self ..)))) k
theorem St.mkTerm (kd : Int) (nm : Str) (i : Int) (s : SimD) (u : Value) (hu : u.oneCell' = true) (l : List TermD) [h0 : InD (simD s) H] [h1 : InD (sl termR u l) H] [h2 : InD (dall termD l) H] (k : St n F (Mm c (dat (termD (.mk kd nm i s ⟨u, hu⟩ l)) :: H)) T) : St n F (Mm c H) T :=
 St.mkD (termD (.mk kd nm i s ⟨u, hu⟩ l)) [simD s, sl termR u l, dall termD l] (fun ρ h => .mk (h (simD s) (by simp)) (h (sl termR u l) (by simp)) (h (dall termD l) (by simp))) k
theorem St.mkTree (r x : Int) (u : Value) (hu : u.oneCell' = true) (l : List TreeD) [h1 : InD (sl treeR u l) H] [h2 : InD (dall treeD l) H] (k : St n F (Mm c (dat (treeD (.mk r x ⟨u, hu⟩ l)) :: H)) T) : St n F (Mm c H) T :=
 St.mkD (treeD (.mk r x ⟨u, hu⟩ l)) [sl treeR u l, dall treeD l] (fun ρ h => .mk (h _ (List.mem_cons_self ..)) (h _ (List.mem_cons_of_mem _ (List.mem_cons_self ..)))) k
theorem St.toSim (x : SimD) {s : Sm0} (u : Value) (hu : u = simV x) (hs : simE x = s) (hw : simR.wf x) [hd : InD (simD x) H] (k : St n F (Mm c (dat (J.isSim s u) :: H)) T) : St n F (Mm c H) T :=
 St.mkD (J.isSim s u) [simD x] (fun ρ h => ⟨x, hu, hs, hw, h _ (List.mem_cons_self ..)⟩) k
theorem St.toTerm (x : TermD) {s : Tm0} (u : Value) (hu : u = termV x) (hs : termE x = s) (hw : termR.wf x) [hd : InD (termD x) H] (k : St n F (Mm c (dat (J.isTerm s u) :: H)) T) : St n F (Mm c H) T :=
 St.mkD (J.isTerm s u) [termD x] (fun ρ h => ⟨x, hu, hs, hw, h _ (List.mem_cons_self ..)⟩) k
theorem St.toGraph (x : GraphD) {g : Gr0} (u : Value) (hu : u = graphV x) (hs : grE x = g) [hd : InD (graphD x) H] (k : St n F (Mm c (dat (J.isGraph g u) :: H)) T) : St n F (Mm c H) T :=
 St.mkD (J.isGraph g u) [graphD x] (fun ρ h => ⟨x, hu, hs, h _ (List.mem_cons_self ..)⟩) k
theorem St.toSl {α : Type} {Rr : Rp α} {xs : List α} (u : Value) (hu : u.oneCell' = true) [hd : InD (sl Rr u xs) H] (k : St n F (Mm c (dat (J.isSl Rr xs u) :: H)) T) : St n F (Mm c H) T :=
 St.mkD (J.isSl Rr xs u) [sl Rr u xs] (fun ρ h => ⟨hu, h _ (List.mem_cons_self ..)⟩) k
theorem St.toNsl {α : Type} {Rr : Rp α} {xs : List (List α)} (u : Value) (hu : u.oneCell' = true) [hd : InD (nsl Rr u xs) H] (k : St n F (Mm c (dat (J.isNsl Rr xs u) :: H)) T) : St n F (Mm c H) T :=
 St.mkD (J.isNsl Rr xs u) [nsl Rr u xs] (fun ρ h => ⟨hu, h _ (List.mem_cons_self ..)⟩) k
end
abbrev nilV : OneV := ⟨.slice none 0 0, rfl⟩
end Go.J

/-
  (YtolmidffiegkaaaDoorJV)
  From a contract over data to a law's statement: slices of structs with slices in them, read down as far as they go.
  Conditions: none; everything holds of any program.
-/
namespace Go.J
open Go Go.ChangeShapes Go.WideShapes Go.ChangeAt Go.RowKit Go.Deep Go.Proofs.YtolmidffiegkaaaDoor
section
variable {H : Type} {enc : TypeId × Value → H} {P : Program} {W : World} {α : Type}
abbrev Tr (enc : TypeId × Value → H) (P : Program) (W : World) (n : Nat) (t : TypeId) (cs : List Value) (y : DataW H × List MemPlace) : Prop := DataW.trod enc P W 0 (fun _ => true) true n t cs = some y
theorem wok_struct {t : TypeId} {fs : Array Field} {ps : List (DataW H)} (ht : P.underlying t = some (.struct fs)) (h : wok ((DataW.agg ps).weights P t) = true) : wok (DataW.weightsEach P (fs.toList.map (·.type)) ps) = true := by
 simpa only [DataW.weights, ht] using h
theorem tr_struct {t : TypeId} {fs : Array Field} {n : Nat} {cs : List Value} {y : DataW H × List MemPlace} (ht : P.underlying t = some (.struct fs)) (h : Tr enc P W n t cs y) (hw : wok (y.1.weights P t) = true) :
  ∃ m, n = m + 1 ∧ ∀ (i : Nat) (f : Field), fs[i]? = some f → ∃ z, Tr enc P W m f.type ((cs.drop f.offset).take (P.cellsOf f.type)) z ∧ wok (z.1.weights P f.type) = true := by
 obtain ⟨xs, m, hn, hy, _, hl, hf⟩ := DataW.trod_struct ht h
 subst hy
 refine ⟨m, hn, fun i f hi => ?_⟩
 have h1 := hf i f hi
 have hif : i < fs.size := (Array.getElem?_eq_some_iff.1 hi).1
 have h2 : xs[i]? = some (xs[i]'(by omega)) := List.getElem?_eq_getElem (by omega)
 refine ⟨xs[i]'(by omega), h1.trans h2, ?_⟩
 refine wok_each (wok_struct ht hw) (j := i) (t := f.type) (d := (xs[i]'(by omega)).1) ?_ ?_
 ·rw [List.getElem?_map, Array.getElem?_toList, hi]; rfl
 ·rw [List.getElem?_map, h2]; rfl
theorem tr_field {fs : Array Field} {m : Nat} {cs : List Value} (hp : ∀ (i : Nat) (f : Field), fs[i]? = some f → ∃ z, Tr enc P W m f.type ((cs.drop f.offset).take (P.cellsOf f.type)) z ∧ wok (z.1.weights P f.type) = true)
  (i : Nat) {f : Field} {t : TypeId} {o k : Nat} (hi : fs[i]? = some f) (ht : f.type = t) (ho : f.offset = o) (hk : P.cellsOf t = k) : ∃ z, Tr enc P W m t ((cs.drop o).take k) z ∧ wok (z.1.weights P t) = true := by
 subst ht ho hk
 exact hp i f hi
theorem sl_openF0 (R : Rp α) {t e : TypeId} {cs0 : List Value} {d : DataW H} {p : List MemPlace} {fuel : Nat} (ht : P.underlying t = some (.slice e)) (hc : P.cellsOf e = R.size)
  (hel : ∀ (n : Nat), n < fuel → ∀ (cs : List Value) (y : DataW H × List MemPlace), cs.length = R.size → Tr enc P W n e cs y → wok (y.1.weights P e) = true → ∃ x : α, cs = R.cells x ∧ R.wf x)
  (hwt : wok (d.weights P t) = true) (hf : Tr enc P W fuel t cs0 (d, p)) : ∃ (v : Value) (xs : List α), cs0 = [v] ∧ v.oneCell' = true ∧ (sl R v xs).f (J.all W) ∧ ((d = .nil ∧ xs = []) ∨ ∃ es sp, d = .slice es sp ∧ es.length = xs.length) := by
 rcases DataW.trod_slice ht hf with ⟨hcs, hdx⟩ | ⟨a, len, cap, elems, rest, n, hn, hcs, hdx, _, hl, hm, hlen, he, _, _⟩
 ·exact ⟨.slice none 0 0, [], hcs, rfl, sl_nil _ _, .inl ⟨by simpa using (Prod.mk.inj hdx).1, rfl⟩⟩
 ·refine ⟨.slice (some a) len cap, ?_⟩
  rw [hcs]
  suffices hs : ∃ xs : List α, (sl R (.slice (some a) len cap) xs).f (J.all W) ∧ ((d = .nil ∧ xs = []) ∨ ∃ es sp, d = .slice es sp ∧ es.length = xs.length) by
   obtain ⟨xs, h1, h2⟩ := hs
   exact ⟨xs, rfl, rfl, h1, h2⟩
  rcases Nat.eq_zero_or_pos len with hz | hpos
  ·refine ⟨[], ⟨_, cap, by rw [hz]; rfl, Nat.zero_le _, hm, (fun x hx => by cases hx), .inl rfl⟩, .inr ⟨_, _, (Prod.mk.inj hdx).1, by rw [List.length_map, hlen, hz]; rfl⟩⟩
  have each : ∀ i, i < len → ∃ x : α, R.wf x ∧ ∀ k u, k < R.size → (R.cells x)[k]? = some u → W.cell? ((a.add (i * R.size)).add k) = some u := fun i hi => by
   have h0 := he i hi
   rw [List.getElem?_eq_getElem (show i < elems.length by omega)] at h0
   obtain ⟨cs, h1, h2⟩ := Option.bind_eq_some_iff.1 h0
   rw [hc] at h1
   obtain ⟨_, h4, h5⟩ := World.cells?_some h1
   obtain ⟨x, rfl, hw⟩ := hel n (by omega) cs _ h4 h2 (wok_slice ht (by rw [(Prod.mk.inj hdx).1] at hwt; exact hwt) (.inl (List.mem_map_of_mem (List.getElem_mem (show i < elems.length by omega)))))
   exact ⟨x, hw, fun k u hk hu => by rw [h5 k hk, hu]⟩
  obtain ⟨x0, hx0⟩ := each 0 (by omega)
  haveI : Inhabited α := ⟨x0⟩
  obtain ⟨X, hX⟩ := choose_lt (α := α) each
  have hxl : ((List.range len).map X).length = len := by simp
  obtain ⟨b, off, spot⟩ := a
  have hu0 : ∃ u, (R.cells (X 0))[0]? = some u := by
   have := R.len (X 0)
   have := R.pos
   exact ⟨_, List.getElem?_eq_getElem (by omega)⟩
  obtain ⟨u0, hu0⟩ := hu0
  have hc0 := (hX 0 (by omega)).2 0 u0 R.pos hu0
  rw [Nat.zero_mul, Deep.add_add] at hc0
  obtain ⟨hs, C, e', fr, hb, _⟩ := blk_of_cell hc0
  have hspot : spot = none := by simpa [Addr.add] using hs
  subst hspot
  have hb : W.heap[b]? = some (.cells C e' fr) := by simpa [Addr.add] using hb
  refine ⟨(List.range len).map X, ⟨some ⟨b, off, none⟩, cap, by rw [hxl], by rw [hxl]; exact hl, hm, ?_, .inr ⟨b, off, C, e', fr, rfl, hb, ?_⟩⟩, .inr ⟨_, _, (Prod.mk.inj hdx).1, by simp [hlen]⟩⟩
  ·intro x hx'
   obtain ⟨i, hi, rfl⟩ := List.mem_map.1 hx'
   exact (hX i (List.mem_range.1 hi)).1
  ·intro j u hj
   obtain ⟨i, k, x, h1, h2, h3, h4⟩ := rows_at _ _ _ hj
   have hil : i < ((List.range len).map X).length := (List.getElem?_eq_some_iff.1 h1).1
   rw [hxl] at hil
   have hxe : x = X i := by simpa [hil] using h1.symm
   subst hxe
   have := (hX i hil).2 k u h2 h4
   rw [Deep.add_add, ← h3] at this
   obtain ⟨_, C', e'', fr', hb', hcell⟩ := blk_of_cell this
   have hb' : W.heap[b]? = some (.cells C' e'' fr') := by
    by_cases h0 : j = 0
    ·subst h0; simpa [Addr.add] using hb'
    ·simpa [Addr.add, h0] using hb'
   have hcell : C'[off + j]? = some u := by
    by_cases h0 : j = 0
    ·subst h0; simpa [Addr.add] using hcell
    ·simpa [Addr.add, h0] using hcell
   rw [hb] at hb'
   simp only [Option.some.injEq, Obj.cells.injEq] at hb'
   rw [hb'.1]; exact hcell
def Rp.with {α : Type} (R : Rp α) (p : α → Prop) : Rp α := ⟨R.size, R.pos, R.cells, fun x => R.wf x ∧ p x, R.len, R.one⟩
theorem sl_with {R : Rp α} {p : α → Prop} {v : Value} {xs : List α} {ρ : Ro} (h : (sl (R.with p) v xs).f ρ) : (sl R v xs).f ρ ∧ ∀ x ∈ xs, p x := by
 obtain ⟨a, cap, h1, h2, h3, h4, h5⟩ := h
 exact ⟨⟨a, cap, h1, h2, h3, fun x hx => (h4 x hx).1, h5⟩, fun x hx => (h4 x hx).2⟩
theorem wok_bytes {t e : TypeId} {es sp : List (DataW H)} (ht : P.underlying t = some (.slice e)) (h : wok ((DataW.slice es sp).weights P t) = true) : es.length * P.bytesOf e ≤ 140737488351232 := by
 simp only [wok, DataW.weights, ht, List.all_cons, Bool.and_eq_true, decide_eq_true_eq] at h
 have h1 := h.1
 have h2 : es.length * P.bytesOf e ≤ (es.length + sp.length) * P.bytesOf e := Nat.mul_le_mul_right _ (by omega)
 unfold reachBytes at h1
 omega
theorem sl_openF (R : Rp α) (p : α → Prop) {t e : TypeId} {cs0 : List Value} {y : DataW H × List MemPlace} {fuel : Nat} (ht : P.underlying t = some (.slice e)) (hc : P.cellsOf e = R.size)
  (hel : ∀ (n : Nat), n < fuel → ∀ (cs : List Value) (y : DataW H × List MemPlace), cs.length = R.size → Tr enc P W n e cs y → wok (y.1.weights P e) = true → ∃ x : α, cs = R.cells x ∧ R.wf x ∧ p x)
  (hf : Tr enc P W fuel t cs0 y) (hwt : wok (y.1.weights P t) = true) : ∃ (v : OneV) (xs : List α), cs0 = [v.1] ∧ (sl R v.1 xs).f (J.all W) ∧ (∀ x ∈ xs, p x) ∧ xs.length * P.bytesOf e ≤ 140737488351232 := by
 obtain ⟨v, xs, h1, h2, h3, h4⟩ := sl_openF0 (R.with p) (d := y.1) (p := y.2) ht hc (fun n hn cs y hl hy hw => by
  obtain ⟨x, a, b⟩ := hel n hn cs y hl hy hw
  exact ⟨x, a, b⟩) hwt hf
 obtain ⟨h5, h6⟩ := sl_with h3
 refine ⟨⟨v, h2⟩, xs, h1, h5, h6, ?_⟩
 rcases h4 with ⟨_, rfl⟩ | ⟨es, sp, he, hl⟩
 ·simp
 ·rw [he] at hwt
  rw [← hl]; exact wok_bytes ht hwt
theorem tr_int {e : TypeId} (he : P.underlying e = some (.int .i64)) {n : Nat} {cs : List Value} {y : DataW H × List MemPlace} (h : Tr enc P W n e cs y) : ∃ x : Int, cs = [iv x] ∧ i64ok x := by
 obtain ⟨z, rfl, _, hw⟩ := DataW.trod_int he h
 exact ⟨z, rfl, wf_i64 hw⟩
theorem tr_str {e : TypeId} (he : P.underlying e = some .string) {n : Nat} {cs : List Value} {y : DataW H × List MemPlace} (h : Tr enc P W n e cs y) (hw0 : wok (y.1.weights P e) = true) : ∃ x : Str, cs = [sv x] ∧ slen x := by
 obtain ⟨s, rfl, hy, hw⟩ := DataW.trod_string he h
 refine ⟨s.data.toList, by rw [sv_of], ?_⟩
 subst hy
 simp only [wok, DataW.weights, reachBytes, List.all_cons, List.all_nil, Bool.and_true] at hw0
 exact of_decide_eq_true hw0
end
end Go.J

/-
  (YtolmidffiegkaaaDoorMtcP)
  The nodes of trees in their order, and the matches of queries, without values.
  Conditions: none.
-/
namespace Go.Proofs.YtolmidffiegkaaaDoor
open Go Go.J
structure Nq where
 no : Nat
 leaf : Bool
 label : Str
 up : Int
 fin : Nat
 frm : Nat
 to : Nat
def nq0 : Nq := ⟨0, false, [], 0, 0, 0, 0⟩
def tm0 : Tm0 := .mk 0 [] 0 (.mk [] []) []
def lx0 : Lx0 := ⟨[], [], 0, tm0⟩
def ru0 : Ru0 := ⟨[], [], 0, 0, tm0⟩
mutual
def nzT : Tr0 → Nat
 | .mk _ _ l => 1 + nzL l
def nzL : List Tr0 → Nat
 | [] => 0
 | x :: l => nzT x + nzL l
end
mutual
def lvT : Tr0 → Nat
 | .mk r _ l => (if r < 0 then 1 else 0) + lvL l
def lvL : List Tr0 → Nat
 | [] => 0
 | x :: l => lvT x + lvL l
end
def labT (g : Gm0) (r x : Int) : Str := if r < 0 then (g.lexes.getD x.toNat lx0).word else (g.rules.getD r.toNat ru0).name
mutual
def ndT (g : Gm0) : Tr0 → Nat → Int → Nat → List Nq
 | .mk r x l, k, up, w => ⟨k, decide (r < 0), labT g r x, up, k + (1 + nzL l), w, w + ((if r < 0 then 1 else 0) + lvL l)⟩ :: ndL g l (k + 1) k (w + (if r < 0 then 1 else 0))
def ndL (g : Gm0) : List Tr0 → Nat → Int → Nat → List Nq
 | [], _, _, _ => []
 | x :: l, k, up, w => ndT g x k up w ++ ndL g l (k + nzT x) up (w + lvT x)
end
mutual
def goodT (nr nl : Nat) : Tr0 → Prop
 | .mk r x l => (-1 ≤ r ∧ r < nr) ∧ (r < 0 → l = [] ∧ 0 ≤ x ∧ x < nl) ∧ (0 ≤ r → l ≠ []) ∧ goodL nr nl l
def goodL (nr nl : Nat) : List Tr0 → Prop
 | [] => True
 | x :: l => goodT nr nl x ∧ goodL nr nl l
end
mutual
theorem ndT_len (g : Gm0) : ∀ (t : Tr0) (k : Nat) (up : Int) (w : Nat), (ndT g t k up w).length = nzT t
 | .mk r x l, k, up, w => by rw [ndT, List.length_cons, ndL_len g l, nzT]; omega
theorem ndL_len (g : Gm0) : ∀ (l : List Tr0) (k : Nat) (up : Int) (w : Nat), (ndL g l k up w).length = nzL l
 | [], _, _, _ => by rw [ndL, nzL]; rfl
 | x :: l, k, up, w => by rw [ndL, List.length_append, ndT_len g x, ndL_len g l, nzL]
end
mutual
theorem lvT_pos {nr nl : Nat} : ∀ t : Tr0, goodT nr nl t → 0 < lvT t
 | .mk r x l, h => by
  rw [goodT] at h
  rw [lvT]
  by_cases hr : r < 0
  ·rw [if_pos hr]; omega
  ·have := lvL_pos l h.2.2.2 (h.2.2.1 (by omega)); omega
theorem lvL_pos {nr nl : Nat} : ∀ l : List Tr0, goodL nr nl l → l ≠ [] → 0 < lvL l
 | [], _, h => absurd rfl h
 | x :: l, h, _ => by
  rw [goodL] at h
  have := lvT_pos x h.1
  rw [lvL]; omega
end
def Ahead (x y : Nq) : Prop := x.no < y.no ∧ ((y.no < x.fin ∧ x.frm ≤ y.frm ∧ y.to ≤ x.to) ∨ (x.fin ≤ y.no ∧ x.to ≤ y.frm))
def Lies (k m w n : Nat) (x : Nq) : Prop := k ≤ x.no ∧ x.no < x.fin ∧ x.fin ≤ k + m ∧ w ≤ x.frm ∧ x.frm < x.to ∧ x.to ≤ w + n
mutual
theorem ndT_ok {nr nl : Nat} (g : Gm0) : ∀ (t : Tr0) (k : Nat) (up : Int) (w : Nat), goodT nr nl t → (ndT g t k up w).Pairwise Ahead ∧ ∀ x ∈ ndT g t k up w, Lies k (nzT t) w (lvT t) x
 | .mk r x l, k, up, w, h => by
  have hp := lvT_pos _ h
  rw [goodT] at h
  obtain ⟨h1, h2⟩ := ndL_ok g l (k + 1) k (w + (if r < 0 then 1 else 0)) h.2.2.2
  rw [ndT, nzT]
  rw [lvT] at hp ⊢
  refine ⟨List.pairwise_cons.2 ⟨fun y hy => ?_, h1⟩, fun y hy => ?_⟩
  ·obtain ⟨a1, a2, a3, a4, a5, a6⟩ := h2 y hy
   refine ⟨?_, Or.inl ⟨?_, ?_, ?_⟩⟩ <;> dsimp only <;> omega
  ·rcases List.mem_cons.1 hy with rfl | hy
   ·refine ⟨?_, ?_, ?_, ?_, ?_, ?_⟩ <;> dsimp only <;> omega
   ·obtain ⟨a1, a2, a3, a4, a5, a6⟩ := h2 y hy
    refine ⟨?_, ?_, ?_, ?_, ?_, ?_⟩ <;> omega
theorem ndL_ok {nr nl : Nat} (g : Gm0) : ∀ (l : List Tr0) (k : Nat) (up : Int) (w : Nat), goodL nr nl l → (ndL g l k up w).Pairwise Ahead ∧ ∀ x ∈ ndL g l k up w, Lies k (nzL l) w (lvL l) x
 | [], _, _, _, _ => by rw [ndL]; exact ⟨List.Pairwise.nil, fun x hx => by cases hx⟩
 | t :: l, k, up, w, h => by
  rw [goodL] at h
  obtain ⟨h1, h2⟩ := ndT_ok g t k up w h.1
  obtain ⟨h3, h4⟩ := ndL_ok g l (k + nzT t) up (w + lvT t) h.2
  rw [ndL, nzL, lvL]
  refine ⟨List.pairwise_append.2 ⟨h1, h3, fun x hx y hy => ?_⟩, fun y hy => ?_⟩
  ·obtain ⟨a1, a2, a3, a4, a5, a6⟩ := h2 x hx
   obtain ⟨b1, b2, b3, b4, b5, b6⟩ := h4 y hy
   exact ⟨by omega, Or.inr ⟨by omega, by omega⟩⟩
  ·rcases List.mem_append.1 hy with hy | hy
   ·obtain ⟨a1, a2, a3, a4, a5, a6⟩ := h2 y hy
    refine ⟨?_, ?_, ?_, ?_, ?_, ?_⟩ <;> omega
   ·obtain ⟨b1, b2, b3, b4, b5, b6⟩ := h4 y hy
    refine ⟨?_, ?_, ?_, ?_, ?_, ?_⟩ <;> omega
end
mutual
theorem ndT_no (g : Gm0) : ∀ (t : Tr0) (k : Nat) (up : Int) (w i : Nat) (x : Nq), (ndT g t k up w)[i]? = some x → x.no = k + i
 | .mk r y l, k, up, w, i, x, h => by
  rw [ndT] at h
  cases i with
  | zero => rw [List.getElem?_cons_zero] at h; cases h; rfl
  | succ i => rw [List.getElem?_cons_succ] at h; have := ndL_no g l _ _ _ i x h; omega
theorem ndL_no (g : Gm0) : ∀ (l : List Tr0) (k : Nat) (up : Int) (w i : Nat) (x : Nq), (ndL g l k up w)[i]? = some x → x.no = k + i
 | [], _, _, _, _, _, h => by rw [ndL] at h; simp at h
 | t :: l, k, up, w, i, x, h => by
  rw [ndL] at h
  rcases Nat.lt_or_ge i (nzT t) with hi | hi
  ·rw [List.getElem?_append_left (by rw [ndT_len]; exact hi)] at h
   exact ndT_no g t k up w i x h
  ·rw [List.getElem?_append_right (by rw [ndT_len]; exact hi), ndT_len] at h
   have := ndL_no g l _ _ _ _ x h
   omega
end
structure VarD where
 name : Str
 kind : Int
 label : Str
structure QLnD where
 kind : Int
 a : Int
 b : Int
def fitsB (v : VarD) (x : Nq) : Bool :=
 if v.kind = 2 then !x.leaf && decide (x.label = v.label) else if v.kind = 3 then x.leaf && decide (x.label = v.label) else if v.kind = 4 then x.leaf else true
def linkB (L : List Nq) (k : Int) (a b : Nat) : Bool :=
 if k = 1 then decide ((L.getD b nq0).up = (a : Int)) else if k = 2 then decide (a < b) && decide (b < (L.getD a nq0).fin)
 else if k = 3 then decide ((L.getD a nq0).to ≤ (L.getD b nq0).frm) else if k = 4 then decide ((L.getD a nq0).to = (L.getD b nq0).frm)
 else decide (a ≠ b) && decide ((L.getD a nq0).up = (L.getD b nq0).up)
def link1 (L : List Nq) (p : List Nat) (x : QLnD) : Bool := !decide (max x.a x.b = (p.length : Int) - 1) || linkB L x.kind (p.getD x.a.toNat 0) (p.getD x.b.toNat 0)
def okB (L : List Nq) (ks : List QLnD) (p : List Nat) : Bool := ks.all (link1 L p)
def goB (L : List Nq) (ks : List QLnD) (v : VarD) (p : List Nat) (i : Nat) : Bool := fitsB v (L.getD i nq0) && okB L ks (p ++ [i])
def extsF (L : List Nq) (ks : List QLnD) : List VarD → List Nat → List (List Nat)
 | [], p => [p]
 | v :: vs, p => (List.range L.length).flatMap fun i => if goB L ks v p i then extsF L ks vs (p ++ [i]) else []
def tryF (L : List Nq) (ks : List QLnD) : List VarD → List Nat → List (List Nat) → List (List Nat)
 | [], p, O => O ++ [p]
 | v :: vs, p, O => (List.range L.length).foldl (fun O i => if 500 < O.length then O else if goB L ks v p i then tryF L ks vs (p ++ [i]) O else O) O
def vrFrom : List Str → Nat → List VarD → Int × Int
 | _, _, [] => (0, 0)
 | known, i, v :: vs => if v.kind < 1 ∨ 4 < v.kind then (4, i) else if isName v.name = false ∨ (v.kind = 2 ∧ isName v.label = false) ∨ (v.kind = 3 ∧ isWord v.label = false) then (10, i)
  else if v.name ∈ known then (7, i) else if (v.kind = 1 ∨ v.kind = 4) ∧ v.label ≠ [] then (5, i) else vrFrom (known ++ [v.name]) (i + 1) vs
def qlFrom (n : Int) : Nat → List QLnD → Int × Int
 | _, [] => (0, 0)
 | i, l :: ls => if l.kind < 1 ∨ 5 < l.kind then (4, i) else if l.a < 0 ∨ n ≤ l.a ∨ l.b < 0 ∨ n ≤ l.b then (3, i) else if l.a = l.b then (5, i) else qlFrom n (i + 1) ls
def qryF (vs : List VarD) (ks : List QLnD) : Int × Int := if 4 < vs.length ∨ 8 < ks.length then (2, -1) else if vs.length = 0 then (9, -1) else if (vrFrom [] 0 vs).1 ≠ 0 then vrFrom [] 0 vs else qlFrom vs.length vs.length ks
theorem take_app_take {α : Type} (A B : List α) (n : Nat) : (A.take n ++ B).take n = (A ++ B).take n := by
 rcases Nat.lt_or_ge A.length n with h | h
 ·rw [List.take_of_length_le (l := A) (by omega)]
 ·rw [List.take_append_of_le_length (by rw [List.length_take]; omega), List.take_take, Nat.min_self, List.take_append_of_le_length h]
theorem tryF_eq (L : List Nq) (ks : List QLnD) : ∀ (vs : List VarD) (p : List Nat) (O : List (List Nat)), O.length ≤ 501 → (vs = [] → O.length ≤ 500) → tryF L ks vs p O = (O ++ extsF L ks vs p).take 501
 | [], p, O, _, h => by
  have := h rfl
  rw [tryF, extsF, List.take_of_length_le]
  rw [List.length_append]; simp only [List.length_cons, List.length_nil]; omega
 | v :: vs, p, O, h, hv => by
  clear hv
  rw [tryF, extsF]
  generalize List.range L.length = is
  induction is generalizing O with
  | nil => rw [List.foldl_nil, List.flatMap_nil, List.append_nil, List.take_of_length_le h]
  | cons i is ih =>
   rw [List.foldl_cons, List.flatMap_cons]
   by_cases hO : 500 < O.length
   ·rw [if_pos hO, ih O h, List.take_append_of_le_length (by omega), List.take_append_of_le_length (by omega)]
   ·rw [if_neg hO]
    by_cases hg : goB L ks v p i = true
    ·rw [if_pos hg, if_pos hg, tryF_eq L ks vs (p ++ [i]) O h (fun _ => by omega), ih _ (by rw [List.length_take]; omega), take_app_take, List.append_assoc]
    ·rw [if_neg hg, if_neg hg, ih O h, List.nil_append]
end Go.Proofs.YtolmidffiegkaaaDoor

/-
  (YtolmidffiegkaaaDoorMtcQ)
  What the matches of the laws' own queries are: pairs of nodes, leaves and their words.
  Conditions: none.
-/
namespace Go.Proofs.YtolmidffiegkaaaDoor
open Go Go.J
mutual
theorem trW_ok {rk : List Int} {nl : Nat} (hk : ∀ k ∈ rk, 1 ≤ k) : ∀ (t : Tr0) (d ch : Nat) (s : TrS), (trW rk nl t d ch s).2.1 = 0 → goodT rk.length nl t ∧ (trW rk nl t d ch s).1.nodes = s.nodes + nzT t ∧ (trW rk nl t d ch s).1.nodes ≤ 200 ∧ (trW rk nl t d ch s).1.leaves = s.leaves + lvT t
 | .mk r x l, d, ch, s, h => by
  rw [trW] at h ⊢
  by_cases h1 : 200 < s.nodes + 1 ∨ 48 < d
  ·rw [if_pos h1] at h; exact absurd h (by simp)
  rw [if_neg h1] at h ⊢
  by_cases h2 : r < -1 ∨ rk.length ≤ r ∨ (r = -1 ∧ (x < 0 ∨ nl ≤ x))
  ·rw [if_pos h2] at h; exact absurd h (by simp)
  rw [if_neg h2] at h ⊢
  by_cases h3 : 0 ≤ r ∧ x ≠ 0
  ·rw [if_pos h3] at h; exact absurd h (by simp)
  rw [if_neg h3] at h ⊢
  by_cases h4 : (l.length : Int) ≠ (if 0 ≤ r then rk.getD r.toNat 0 else 0)
  ·rw [if_pos h4] at h; exact absurd h (by simp)
  rw [if_neg h4] at h ⊢
  by_cases h5 : 3 < (if l.length = 1 then ch + 1 else 0)
  ·rw [if_pos h5] at h; exact absurd h (by simp)
  rw [if_neg h5] at h ⊢
  obtain ⟨k1, k2, k3, k4⟩ := trWL_ok hk l _ _ _ h (show s.nodes + 1 ≤ 200 by omega)
  refine ⟨?_, by rw [k2, nzT]; dsimp only; omega, k3, ?_⟩
  ·rw [goodT]
   refine ⟨by omega, fun hr => ?_, fun hr hl => ?_, k1⟩
   ·rw [if_neg (by omega)] at h4
    refine ⟨List.eq_nil_of_length_eq_zero (by omega), by omega, by omega⟩
   ·rw [if_pos hr, hl] at h4
    have hlt : r.toNat < rk.length := by omega
    have := hk (rk.getD r.toNat 0) (by rw [List.getD_eq_getElem?_getD, List.getElem?_eq_getElem hlt]; exact List.getElem_mem hlt)
    simp only [List.length_nil] at h4
    omega
  ·rw [k4, lvT]
   dsimp only
   by_cases hr : 0 ≤ r
   ·rw [if_pos hr, if_neg (by omega)]; omega
   ·rw [if_neg hr, if_pos (by omega)]; omega
theorem trWL_ok {rk : List Int} {nl : Nat} (hk : ∀ k ∈ rk, 1 ≤ k) : ∀ (l : List Tr0) (d ch : Nat) (s : TrS), (trWL rk nl l d ch s).2.1 = 0 → s.nodes ≤ 200 → goodL rk.length nl l ∧ (trWL rk nl l d ch s).1.nodes = s.nodes + nzL l ∧ (trWL rk nl l d ch s).1.nodes ≤ 200 ∧ (trWL rk nl l d ch s).1.leaves = s.leaves + lvL l
 | [], d, ch, s, _, hs => by rw [trWL, goodL, nzL, lvL]; exact ⟨trivial, rfl, hs, rfl⟩
 | x :: l, d, ch, s, h, hs => by
  rw [trWL] at h ⊢
  by_cases h1 : (trW rk nl x d ch s).2.1 ≠ 0
  ·rw [if_pos h1] at h; exact absurd h h1
  rw [if_neg h1] at h ⊢
  obtain ⟨a1, a2, a3, a4⟩ := trW_ok hk x d ch s (Decidable.not_not.1 h1)
  obtain ⟨b1, b2, b3, b4⟩ := trWL_ok hk l d ch _ h a3
  rw [goodL, nzL, lvL]
  exact ⟨⟨a1, b1⟩, by omega, b3, by omega⟩
end
structure NdsOK (L : List Nq) : Prop where
 ahead : L.Pairwise Ahead
 no : ∀ (i : Nat) (x : Nq), L[i]? = some x → x.no = i
 words : ∀ x ∈ L, x.frm < x.to ∧ x.no < x.fin
theorem NdsOK.of {nr nl : Nat} (g : Gm0) {t : Tr0} (h : goodT nr nl t) : NdsOK (ndT g t 0 (-1) 0) := by
 obtain ⟨h1, h2⟩ := ndT_ok g t 0 (-1) 0 h
 exact ⟨h1, fun i x hx => by have := ndT_no g t 0 (-1) 0 i x hx; omega, fun x hx => by obtain ⟨a1, a2, a3, a4, a5, a6⟩ := h2 x hx; exact ⟨a5, a2⟩⟩
theorem getD_some {L : List Nq} {i : Nat} (h : i < L.length) : L[i]? = some (L.getD i nq0) := by
 rw [List.getD_eq_getElem?_getD, List.getElem?_eq_getElem h]; rfl
theorem NdsOK.lt {L : List Nq} (h : NdsOK L) {i j : Nat} (hij : i < j) (hj : j < L.length) : Ahead (L.getD i nq0) (L.getD j nq0) ∧ (L.getD i nq0).no = i ∧ (L.getD j nq0).no = j := by
 have h1 := getD_some (show i < L.length by omega)
 have h2 := getD_some hj
 refine ⟨?_, h.no _ _ h1, h.no _ _ h2⟩
 have := List.pairwise_iff_getElem.1 h.ahead i j (by omega) hj hij
 rw [List.getElem?_eq_getElem (show i < L.length by omega)] at h1
 rw [List.getElem?_eq_getElem hj] at h2
 injection h1 with h1; injection h2 with h2
 rw [← h1, ← h2]; exact this
theorem NdsOK.one {L : List Nq} (h : NdsOK L) {i : Nat} (hi : i < L.length) : (L.getD i nq0).frm < (L.getD i nq0).to := (h.words _ (List.mem_of_getElem? (getD_some hi))).1
theorem goB_name (L : List Nq) (ks : List QLnD) (v u : VarD) (p : List Nat) (i : Nat) (h1 : v.kind = u.kind) (h2 : v.label = u.label) : goB L ks v p i = goB L ks u p i := by
 unfold goB fitsB; rw [h1, h2]
theorem exts_name (L : List Nq) (ks : List QLnD) : ∀ (vs us : List VarD) (p : List Nat), vs.map (fun v => (v.kind, v.label)) = us.map (fun v => (v.kind, v.label)) → extsF L ks vs p = extsF L ks us p
 | [], [], _, _ => rfl
 | [], _ :: _, _, h => by simp at h
 | _ :: _, [], _, h => by simp at h
 | v :: vs, u :: us, p, h => by
  rw [List.map_cons, List.map_cons, List.cons.injEq, Prod.mk.injEq] at h
  rw [extsF, extsF]
  congr 1
  funext i
  rw [goB_name L ks v u p i h.1.1 h.1.2, exts_name L ks vs us _ h.2]
end Go.Proofs.YtolmidffiegkaaaDoor

/-
  (YtolmidffiegkaaaDoorJ32)
  Queries and the nodes of trees as data.
  Conditions: none; everything holds of any program.
-/
namespace Go.J
open Go Go.Proofs.YtolmidffiegkaaaDoor
def varR : Rp VarD := ⟨3, by decide, fun x => [sv x.name, iv x.kind, sv x.label], fun x => slen x.name ∧ i64ok x.kind ∧ slen x.label, fun _ => rfl, fun x u h => by simp at h; rcases h with rfl | rfl | rfl <;> rfl⟩
def qlnR : Rp QLnD := ⟨3, by decide, fun x => [iv x.kind, iv x.a, iv x.b], fun x => i64ok x.kind ∧ i64ok x.a ∧ i64ok x.b, fun _ => rfl, fun x u h => by simp at h; rcases h with rfl | rfl | rfl <;> rfl⟩
def ndqR : Rp Nq := ⟨6, by decide, fun x => [.bool x.leaf, sv x.label, iv x.up, iv (x.fin : Int), iv (x.frm : Int), iv (x.to : Int)], fun _ => True, fun _ => rfl, fun x u h => by simp at h; rcases h with rfl | rfl | rfl | rfl | rfl | rfl <;> rfl⟩
instance (x : VarD) : Cel varR x [sv x.name, iv x.kind, sv x.label] := ⟨rfl⟩
instance (x : QLnD) : Cel qlnR x [iv x.kind, iv x.a, iv x.b] := ⟨rfl⟩
instance (x : Nq) : Cel ndqR x [.bool x.leaf, sv x.label, iv x.up, iv (x.fin : Int), iv (x.frm : Int), iv (x.to : Int)] := ⟨rfl⟩
structure QryD where
 vv : OneV
 vars : List VarD
 kv : OneV
 links : List QLnD
abbrev queryV (q : QryD) : Value := .agg #[q.vv.1, q.kv.1]
def queryL (q : QryD) : List Dat := [sl varR q.vv.1 q.vars, sl qlnR q.kv.1 q.links]
def queryD (q : QryD) : Dat := allD (queryL q)
end Go.J

/-
  (YtolmidffiegkaaaDoorOpenG)
  Grammars, trees and queries read out of arguments.
  Conditions: none.
-/
set_option maxRecDepth 20000
set_option linter.unusedSimpArgs false
set_option linter.unusedVariables false
namespace Go.Proofs.YtolmidffiegkaaaDoor
open Go Go.J Go.ChangeShapes Go.WideShapes Go.ChangeAt Go.RowKit Go.Deep
theorem len_1 {α : Type} {l : List α} (h : l.length = 1) : ∃ a0, l = [a0] := match l, h with
 | [a0], _ => ⟨a0, rfl⟩
theorem len_2 {α : Type} {l : List α} (h : l.length = 2) : ∃ a0 a1, l = [a0, a1] := match l, h with
 | [a0, a1], _ => ⟨a0, a1, rfl⟩
theorem len_3 {α : Type} {l : List α} (h : l.length = 3) : ∃ a0 a1 a2, l = [a0, a1, a2] := match l, h with
 | [a0, a1, a2], _ => ⟨a0, a1, a2, rfl⟩
theorem len_5 {α : Type} {l : List α} (h : l.length = 5) : ∃ a0 a1 a2 a3 a4, l = [a0, a1, a2, a3, a4] := match l, h with
 | [a0, a1, a2, a3, a4], _ => ⟨a0, a1, a2, a3, a4, rfl⟩
theorem len_6 {α : Type} {l : List α} (h : l.length = 6) : ∃ a0 a1 a2 a3 a4 a5, l = [a0, a1, a2, a3, a4, a5] := match l, h with
 | [a0, a1, a2, a3, a4, a5], _ => ⟨a0, a1, a2, a3, a4, a5, rfl⟩
theorem len_9 {α : Type} {l : List α} (h : l.length = 9) : ∃ a0 a1 a2 a3 a4 a5 a6 a7 a8, l = [a0, a1, a2, a3, a4, a5, a6, a7, a8] := match l, h with
 | [a0, a1, a2, a3, a4, a5, a6, a7, a8], _ => ⟨a0, a1, a2, a3, a4, a5, a6, a7, a8, rfl⟩
theorem len_10 {α : Type} {l : List α} (h : l.length = 10) : ∃ a0 a1 a2 a3 a4 a5 a6 a7 a8 a9, l = [a0, a1, a2, a3, a4, a5, a6, a7, a8, a9] := match l, h with
 | [a0, a1, a2, a3, a4, a5, a6, a7, a8, a9], _ => ⟨a0, a1, a2, a3, a4, a5, a6, a7, a8, a9, rfl⟩
theorem cells3 : Tryd.prog.cellsOf 3 = 1 := by kernel_rfl
theorem cells9 : Tryd.prog.cellsOf 9 = 1 := by kernel_rfl
theorem cells22 : Tryd.prog.cellsOf 22 = 1 := by kernel_rfl
theorem cells23 : Tryd.prog.cellsOf 23 = 1 := by kernel_rfl
theorem cells25 : Tryd.prog.cellsOf 25 = 2 := by kernel_rfl
theorem cells26 : Tryd.prog.cellsOf 26 = 1 := by kernel_rfl
theorem cells27 : Tryd.prog.cellsOf 27 = 1 := by kernel_rfl
theorem cells28 : Tryd.prog.cellsOf 28 = 1 := by kernel_rfl
theorem cells30 : Tryd.prog.cellsOf 30 = 1 := by kernel_rfl
theorem cells32 : Tryd.prog.cellsOf 32 = 5 := by kernel_rfl
theorem cells33 : Tryd.prog.cellsOf 33 = 1 := by kernel_rfl
theorem cells35 : Tryd.prog.cellsOf 35 = 3 := by kernel_rfl
theorem cells38 : Tryd.prog.cellsOf 38 = 3 := by kernel_rfl
theorem cells39 : Tryd.prog.cellsOf 39 = 1 := by kernel_rfl
theorem cells46 : Tryd.prog.cellsOf 46 = 3 := by kernel_rfl
theorem cells47 : Tryd.prog.cellsOf 47 = 1 := by kernel_rfl
theorem cells49 : Tryd.prog.cellsOf 49 = 2 := by kernel_rfl
theorem cells57 : Tryd.prog.cellsOf 57 = 1 := by kernel_rfl
theorem cells75 : Tryd.prog.cellsOf 75 = 1 := by kernel_rfl
theorem cells77 : Tryd.prog.cellsOf 77 = 2 := by kernel_rfl
theorem cells78 : Tryd.prog.cellsOf 78 = 1 := by kernel_rfl
theorem cells80 : Tryd.prog.cellsOf 80 = 6 := by kernel_rfl
theorem cells82 : Tryd.prog.cellsOf 82 = 9 := by kernel_rfl
theorem cells87 : Tryd.prog.cellsOf 87 = 3 := by kernel_rfl
theorem cells91 : Tryd.prog.cellsOf 91 = 10 := by kernel_rfl
theorem cells113 : Tryd.prog.cellsOf 113 = 2 := by kernel_rfl
theorem cells114 : Tryd.prog.cellsOf 114 = 1 := by kernel_rfl
theorem cells116 : Tryd.prog.cellsOf 116 = 2 := by kernel_rfl
theorem cells118 : Tryd.prog.cellsOf 118 = 2 := by kernel_rfl
section
variable {H : Type} {enc : TypeId × Value → H} {W : World}
theorem el_link : ∀ (n : Nat) (cs : List Value) (y : DataW H × List MemPlace), cs.length = 2 → Tr enc Tryd.prog W n 118 cs y → wok (y.1.weights Tryd.prog 118) = true → ∃ x : LinkD, cs = linkR.cells x ∧ linkR.wf x ∧ True := by
 intro n
 intro cs y hl h hw
 obtain ⟨c0, c1, rfl⟩ := len_2 hl
 obtain ⟨m, rfl, hp⟩ := tr_struct Tryd.underlying118 h hw
 obtain ⟨z0, t0, w0⟩ := tr_field hp 0 rfl rfl rfl cells3
 have t0 : Tr enc Tryd.prog W m 3 [c0] z0 := t0
 obtain ⟨x0, e0, k0⟩ := tr_int Tryd.underlying3 t0
 obtain ⟨z1, t1, w1⟩ := tr_field hp 1 rfl rfl rfl cells3
 have t1 : Tr enc Tryd.prog W m 3 [c1] z1 := t1
 obtain ⟨x1, e1, k1⟩ := tr_int Tryd.underlying3 t1
 simp only [List.cons.injEq, and_true] at e0
 subst e0
 simp only [List.cons.injEq, and_true] at e1
 subst e1
 exact ⟨⟨x0, x1⟩, rfl, ⟨k0, k1⟩, trivial⟩
theorem el_node : ∀ (n : Nat) (cs : List Value) (y : DataW H × List MemPlace), cs.length = 2 → Tr enc Tryd.prog W n 116 cs y → wok (y.1.weights Tryd.prog 116) = true → ∃ x : NodeD, cs = nodeR.cells x ∧ nodeR.wf x ∧ (nodeD x).f (J.all W) := by
 intro n
 intro cs y hl h hw
 obtain ⟨c0, c1, rfl⟩ := len_2 hl
 obtain ⟨m, rfl, hp⟩ := tr_struct Tryd.underlying116 h hw
 obtain ⟨z0, t0, w0⟩ := tr_field hp 0 rfl rfl rfl cells3
 have t0 : Tr enc Tryd.prog W m 3 [c0] z0 := t0
 obtain ⟨x0, e0, k0⟩ := tr_int Tryd.underlying3 t0
 obtain ⟨z1, t1, w1⟩ := tr_field hp 1 rfl rfl rfl cells114
 have t1 : Tr enc Tryd.prog W m 114 [c1] z1 := t1
 obtain ⟨x1, l1, e1, f1, k1, s1⟩ := sl_openF linkR (fun _ => True) Tryd.underlying114 cells118 (fun n _ => el_link n) t1 w1
 simp only [List.cons.injEq, and_true] at e0
 subst e0
 simp only [List.cons.injEq, and_true] at e1
 subst e1
 exact ⟨⟨x0, x1, l1⟩, rfl, k0, f1⟩
theorem el_graph : ∀ (n : Nat) (cs : List Value) (y : DataW H × List MemPlace), cs.length = 1 → Tr enc Tryd.prog W n 30 cs y → wok (y.1.weights Tryd.prog 30) = true → ∃ x : GraphD, cs = [x.nv.1] ∧ (graphD x).f (J.all W) := by
 intro n
 intro cs y hl h hw
 obtain ⟨c0, rfl⟩ := len_1 hl
 obtain ⟨m, rfl, hp⟩ := tr_struct Tryd.underlying30 h hw
 obtain ⟨z0, t0, w0⟩ := tr_field hp 0 rfl rfl rfl cells28
 have t0 : Tr enc Tryd.prog W m 28 [c0] z0 := t0
 obtain ⟨x0, l0, e0, f0, k0, s0⟩ := sl_openF nodeR (fun x => (nodeD x).f (J.all W)) Tryd.underlying28 cells116 (fun n _ => el_node n) t0 w0
 simp only [List.cons.injEq, and_true] at e0
 subst e0
 exact ⟨⟨x0, l0⟩, rfl, fun d hd => by
  simp only [graphL, List.mem_cons, List.not_mem_nil, or_false] at hd
  rcases hd with rfl | rfl
  ·exact f0
  ·exact k0⟩
theorem el_ty : ∀ (n : Nat) (cs : List Value) (y : DataW H × List MemPlace), cs.length = 2 → Tr enc Tryd.prog W n 113 cs y → wok (y.1.weights Tryd.prog 113) = true → ∃ x : TyD, cs = tyR.cells x ∧ tyR.wf x ∧ (tyD x).f (J.all W) := by
 intro n
 intro cs y hl h hw
 obtain ⟨c0, c1, rfl⟩ := len_2 hl
 obtain ⟨m, rfl, hp⟩ := tr_struct Tryd.underlying113 h hw
 obtain ⟨z0, t0, w0⟩ := tr_field hp 0 rfl rfl rfl cells9
 have t0 : Tr enc Tryd.prog W m 9 [c0] z0 := t0
 obtain ⟨x0, e0, k0⟩ := tr_str Tryd.underlying9 t0 w0
 obtain ⟨z1, t1, w1⟩ := tr_field hp 1 rfl rfl rfl cells57
 have t1 : Tr enc Tryd.prog W m 57 [c1] z1 := t1
 obtain ⟨x1, l1, e1, f1, k1, s1⟩ := sl_openF intR (fun _ => True) Tryd.underlying57 cells3 (fun n _ cs y hl h _ => by obtain ⟨x, e, w⟩ := tr_int Tryd.underlying3 h; exact ⟨x, e, w, trivial⟩) t1 w1
 simp only [List.cons.injEq, and_true] at e0
 subst e0
 simp only [List.cons.injEq, and_true] at e1
 subst e1
 exact ⟨⟨x0, x1, l1⟩, rfl, k0, f1⟩
theorem el_feat : ∀ (n : Nat) (cs : List Value) (y : DataW H × List MemPlace), cs.length = 3 → Tr enc Tryd.prog W n 87 cs y → wok (y.1.weights Tryd.prog 87) = true → ∃ x : FeatD, cs = featR.cells x ∧ featR.wf x ∧ True := by
 intro n
 intro cs y hl h hw
 obtain ⟨c0, c1, c2, rfl⟩ := len_3 hl
 obtain ⟨m, rfl, hp⟩ := tr_struct Tryd.underlying87 h hw
 obtain ⟨z0, t0, w0⟩ := tr_field hp 0 rfl rfl rfl cells9
 have t0 : Tr enc Tryd.prog W m 9 [c0] z0 := t0
 obtain ⟨x0, e0, k0⟩ := tr_str Tryd.underlying9 t0 w0
 obtain ⟨z1, t1, w1⟩ := tr_field hp 1 rfl rfl rfl cells3
 have t1 : Tr enc Tryd.prog W m 3 [c1] z1 := t1
 obtain ⟨x1, e1, k1⟩ := tr_int Tryd.underlying3 t1
 obtain ⟨z2, t2, w2⟩ := tr_field hp 2 rfl rfl rfl cells3
 have t2 : Tr enc Tryd.prog W m 3 [c2] z2 := t2
 obtain ⟨x2, e2, k2⟩ := tr_int Tryd.underlying3 t2
 simp only [List.cons.injEq, and_true] at e0
 subst e0
 simp only [List.cons.injEq, and_true] at e1
 subst e1
 simp only [List.cons.injEq, and_true] at e2
 subst e2
 exact ⟨⟨x0, x1, x2⟩, rfl, ⟨k0, k1, k2⟩, trivial⟩
theorem el_sim : ∀ (n : Nat) (cs : List Value) (y : DataW H × List MemPlace), cs.length = 2 → Tr enc Tryd.prog W n 77 cs y → wok (y.1.weights Tryd.prog 77) = true → ∃ x : SimD, cs = simR.cells x ∧ simR.wf x ∧ SimOK (J.all W) x := by
 intro n
 induction n using Nat.strongRecOn with
 | _ n ih =>
 intro cs y hl h hw
 obtain ⟨c0, c1, rfl⟩ := len_2 hl
 obtain ⟨m, rfl, hp⟩ := tr_struct Tryd.underlying77 h hw
 obtain ⟨z0, t0, w0⟩ := tr_field hp 0 rfl rfl rfl cells9
 have t0 : Tr enc Tryd.prog W m 9 [c0] z0 := t0
 obtain ⟨x0, e0, k0⟩ := tr_str Tryd.underlying9 t0 w0
 obtain ⟨z1, t1, w1⟩ := tr_field hp 1 rfl rfl rfl cells75
 have t1 : Tr enc Tryd.prog W m 75 [c1] z1 := t1
 obtain ⟨x1, l1, e1, f1, k1, s1⟩ := sl_openF simR (SimOK (J.all W)) Tryd.underlying75 cells77 (fun k hk => ih k (by omega)) t1 w1
 simp only [List.cons.injEq, and_true] at e0
 subst e0
 simp only [List.cons.injEq, and_true] at e1
 subst e1
 exact ⟨.mk x0 x1 l1, rfl, k0, .mk f1 k1⟩
theorem el_term : ∀ (n : Nat) (cs : List Value) (y : DataW H × List MemPlace), cs.length = 6 → Tr enc Tryd.prog W n 80 cs y → wok (y.1.weights Tryd.prog 80) = true → ∃ x : TermD, cs = termR.cells x ∧ termR.wf x ∧ TermOK (J.all W) x := by
 intro n
 induction n using Nat.strongRecOn with
 | _ n ih =>
 intro cs y hl h hw
 obtain ⟨c0, c1, c2, c3, c4, c5, rfl⟩ := len_6 hl
 obtain ⟨m, rfl, hp⟩ := tr_struct Tryd.underlying80 h hw
 obtain ⟨z0, t0, w0⟩ := tr_field hp 0 rfl rfl rfl cells3
 have t0 : Tr enc Tryd.prog W m 3 [c0] z0 := t0
 obtain ⟨x0, e0, k0⟩ := tr_int Tryd.underlying3 t0
 obtain ⟨z1, t1, w1⟩ := tr_field hp 1 rfl rfl rfl cells9
 have t1 : Tr enc Tryd.prog W m 9 [c1] z1 := t1
 obtain ⟨x1, e1, k1⟩ := tr_str Tryd.underlying9 t1 w1
 obtain ⟨z2, t2, w2⟩ := tr_field hp 2 rfl rfl rfl cells3
 have t2 : Tr enc Tryd.prog W m 3 [c2] z2 := t2
 obtain ⟨x2, e2, k2⟩ := tr_int Tryd.underlying3 t2
 obtain ⟨z3, t3, w3⟩ := tr_field hp 3 rfl rfl rfl cells77
 have t3 : Tr enc Tryd.prog W m 77 [c3, c4] z3 := t3
 obtain ⟨x3, e3, k3, q3⟩ := el_sim _ _ _ rfl t3 w3
 obtain ⟨z4, t4, w4⟩ := tr_field hp 4 rfl rfl rfl cells78
 have t4 : Tr enc Tryd.prog W m 78 [c5] z4 := t4
 obtain ⟨x4, l4, e4, f4, k4, s4⟩ := sl_openF termR (TermOK (J.all W)) Tryd.underlying78 cells80 (fun k hk => ih k (by omega)) t4 w4
 simp only [List.cons.injEq, and_true] at e0
 subst e0
 simp only [List.cons.injEq, and_true] at e1
 subst e1
 simp only [List.cons.injEq, and_true] at e2
 subst e2
 cases e3
 simp only [List.cons.injEq, and_true] at e4
 subst e4
 exact ⟨.mk x0 x1 x2 x3 x4 l4, rfl, ⟨k0, k1, k2, k3⟩, .mk q3 f4 k4⟩
theorem el_tree : ∀ (n : Nat) (cs : List Value) (y : DataW H × List MemPlace), cs.length = 3 → Tr enc Tryd.prog W n 35 cs y → wok (y.1.weights Tryd.prog 35) = true → ∃ x : TreeD, cs = treeR.cells x ∧ treeR.wf x ∧ TreeOK (J.all W) x := by
 intro n
 induction n using Nat.strongRecOn with
 | _ n ih =>
 intro cs y hl h hw
 obtain ⟨c0, c1, c2, rfl⟩ := len_3 hl
 obtain ⟨m, rfl, hp⟩ := tr_struct Tryd.underlying35 h hw
 obtain ⟨z0, t0, w0⟩ := tr_field hp 0 rfl rfl rfl cells3
 have t0 : Tr enc Tryd.prog W m 3 [c0] z0 := t0
 obtain ⟨x0, e0, k0⟩ := tr_int Tryd.underlying3 t0
 obtain ⟨z1, t1, w1⟩ := tr_field hp 1 rfl rfl rfl cells3
 have t1 : Tr enc Tryd.prog W m 3 [c1] z1 := t1
 obtain ⟨x1, e1, k1⟩ := tr_int Tryd.underlying3 t1
 obtain ⟨z2, t2, w2⟩ := tr_field hp 2 rfl rfl rfl cells33
 have t2 : Tr enc Tryd.prog W m 33 [c2] z2 := t2
 obtain ⟨x2, l2, e2, f2, k2, s2⟩ := sl_openF treeR (TreeOK (J.all W)) Tryd.underlying33 cells35 (fun k hk => ih k (by omega)) t2 w2
 simp only [List.cons.injEq, and_true] at e0
 subst e0
 simp only [List.cons.injEq, and_true] at e1
 subst e1
 simp only [List.cons.injEq, and_true] at e2
 subst e2
 exact ⟨.mk x0 x1 x2 l2, rfl, ⟨k0, k1⟩, .mk f2 k2⟩
theorem el_rule : ∀ (n : Nat) (cs : List Value) (y : DataW H × List MemPlace), cs.length = 10 → Tr enc Tryd.prog W n 91 cs y → wok (y.1.weights Tryd.prog 91) = true → ∃ x : RuleD, cs = ruleR.cells x ∧ ruleR.wf x ∧ (ruleD x).f (J.all W) := by
 intro n
 intro cs y hl h hw
 obtain ⟨c0, c1, c2, c3, c4, c5, c6, c7, c8, c9, rfl⟩ := len_10 hl
 obtain ⟨m, rfl, hp⟩ := tr_struct Tryd.underlying91 h hw
 obtain ⟨z0, t0, w0⟩ := tr_field hp 0 rfl rfl rfl cells9
 have t0 : Tr enc Tryd.prog W m 9 [c0] z0 := t0
 obtain ⟨x0, e0, k0⟩ := tr_str Tryd.underlying9 t0 w0
 obtain ⟨z1, t1, w1⟩ := tr_field hp 1 rfl rfl rfl cells30
 have t1 : Tr enc Tryd.prog W m 30 [c1] z1 := t1
 obtain ⟨x1, e1, q1⟩ := el_graph _ _ _ rfl t1 w1
 obtain ⟨z2, t2, w2⟩ := tr_field hp 2 rfl rfl rfl cells3
 have t2 : Tr enc Tryd.prog W m 3 [c2] z2 := t2
 obtain ⟨x2, e2, k2⟩ := tr_int Tryd.underlying3 t2
 obtain ⟨z3, t3, w3⟩ := tr_field hp 3 rfl rfl rfl cells3
 have t3 : Tr enc Tryd.prog W m 3 [c3] z3 := t3
 obtain ⟨x3, e3, k3⟩ := tr_int Tryd.underlying3 t3
 obtain ⟨z4, t4, w4⟩ := tr_field hp 4 rfl rfl rfl cells80
 have t4 : Tr enc Tryd.prog W m 80 [c4, c5, c6, c7, c8, c9] z4 := t4
 obtain ⟨x4, e4, k4, q4⟩ := el_term _ _ _ rfl t4 w4
 simp only [List.cons.injEq, and_true] at e0
 subst e0
 cases e1
 simp only [List.cons.injEq, and_true] at e2
 subst e2
 simp only [List.cons.injEq, and_true] at e3
 subst e3
 cases e4
 exact ⟨⟨x0, x1, x2, x3, x4⟩, rfl, ⟨k0, k2, k3, k4⟩, fun d hd => by
  simp only [ruleL, List.mem_cons, List.not_mem_nil, or_false] at hd
  rcases hd with rfl | rfl
  ·exact q1
  ·exact q4⟩
theorem el_lex : ∀ (n : Nat) (cs : List Value) (y : DataW H × List MemPlace), cs.length = 9 → Tr enc Tryd.prog W n 82 cs y → wok (y.1.weights Tryd.prog 82) = true → ∃ x : LexD, cs = lexR.cells x ∧ lexR.wf x ∧ (lexD x).f (J.all W) := by
 intro n
 intro cs y hl h hw
 obtain ⟨c0, c1, c2, c3, c4, c5, c6, c7, c8, rfl⟩ := len_9 hl
 obtain ⟨m, rfl, hp⟩ := tr_struct Tryd.underlying82 h hw
 obtain ⟨z0, t0, w0⟩ := tr_field hp 0 rfl rfl rfl cells9
 have t0 : Tr enc Tryd.prog W m 9 [c0] z0 := t0
 obtain ⟨x0, e0, k0⟩ := tr_str Tryd.underlying9 t0 w0
 obtain ⟨z1, t1, w1⟩ := tr_field hp 1 rfl rfl rfl cells30
 have t1 : Tr enc Tryd.prog W m 30 [c1] z1 := t1
 obtain ⟨x1, e1, q1⟩ := el_graph _ _ _ rfl t1 w1
 obtain ⟨z2, t2, w2⟩ := tr_field hp 2 rfl rfl rfl cells3
 have t2 : Tr enc Tryd.prog W m 3 [c2] z2 := t2
 obtain ⟨x2, e2, k2⟩ := tr_int Tryd.underlying3 t2
 obtain ⟨z3, t3, w3⟩ := tr_field hp 3 rfl rfl rfl cells80
 have t3 : Tr enc Tryd.prog W m 80 [c3, c4, c5, c6, c7, c8] z3 := t3
 obtain ⟨x3, e3, k3, q3⟩ := el_term _ _ _ rfl t3 w3
 simp only [List.cons.injEq, and_true] at e0
 subst e0
 cases e1
 simp only [List.cons.injEq, and_true] at e2
 subst e2
 cases e3
 exact ⟨⟨x0, x1, x2, x3⟩, rfl, ⟨k0, k2, k3⟩, fun d hd => by
  simp only [lexL, List.mem_cons, List.not_mem_nil, or_false] at hd
  rcases hd with rfl | rfl
  ·exact q1
  ·exact q3⟩
theorem el_hier : ∀ (n : Nat) (cs : List Value) (y : DataW H × List MemPlace), cs.length = 2 → Tr enc Tryd.prog W n 25 cs y → wok (y.1.weights Tryd.prog 25) = true → ∃ (tv : OneV) (ts : List TyD) (fv : OneV) (fs : List FeatD), cs = [tv.1, fv.1] ∧ ∀ d ∈ hierL tv fv ts fs, d.f (J.all W) := by
 intro n
 intro cs y hl h hw
 obtain ⟨c0, c1, rfl⟩ := len_2 hl
 obtain ⟨m, rfl, hp⟩ := tr_struct Tryd.underlying25 h hw
 obtain ⟨z0, t0, w0⟩ := tr_field hp 0 rfl rfl rfl cells22
 have t0 : Tr enc Tryd.prog W m 22 [c0] z0 := t0
 obtain ⟨x0, l0, e0, f0, k0, s0⟩ := sl_openF tyR (fun x => (tyD x).f (J.all W)) Tryd.underlying22 cells113 (fun n _ => el_ty n) t0 w0
 obtain ⟨z1, t1, w1⟩ := tr_field hp 1 rfl rfl rfl cells23
 have t1 : Tr enc Tryd.prog W m 23 [c1] z1 := t1
 obtain ⟨x1, l1, e1, f1, k1, s1⟩ := sl_openF featR (fun _ => True) Tryd.underlying23 cells87 (fun n _ => el_feat n) t1 w1
 simp only [List.cons.injEq, and_true] at e0
 subst e0
 simp only [List.cons.injEq, and_true] at e1
 subst e1
 exact ⟨x0, l0, x1, l1, rfl, fun d hd => by
  simp only [hierL, List.mem_cons, List.not_mem_nil, or_false] at hd
  rcases hd with rfl | rfl | rfl
  ·exact f0
  ·exact k0
  ·exact f1⟩
theorem el_grm : ∀ (n : Nat) (cs : List Value) (y : DataW H × List MemPlace), cs.length = 5 → Tr enc Tryd.prog W n 32 cs y → wok (y.1.weights Tryd.prog 32) = true → ∃ x : GrmD, cs = grmC x ∧ (grmD x).f (J.all W) := by
 intro n cs y hl h hw
 obtain ⟨c0, c1, c2, c3, c4, rfl⟩ := len_5 hl
 obtain ⟨m, rfl, hp⟩ := tr_struct Tryd.underlying32 h hw
 obtain ⟨z0, t0, w0⟩ := tr_field hp 0 rfl rfl rfl cells25
 have t0 : Tr enc Tryd.prog W m 25 [c0, c1] z0 := t0
 obtain ⟨tv, ts, fv, fs, e0, q0⟩ := el_hier _ _ _ rfl t0 w0
 obtain ⟨z1, t1, w1⟩ := tr_field hp 1 rfl rfl rfl cells26
 have t1 : Tr enc Tryd.prog W m 26 [c2] z1 := t1
 obtain ⟨x1, l1, e1, f1, k1, _⟩ := sl_openF ruleR (fun x => (ruleD x).f (J.all W)) Tryd.underlying26 cells91 (fun n _ => el_rule n) t1 w1
 obtain ⟨z2, t2, w2⟩ := tr_field hp 2 rfl rfl rfl cells27
 have t2 : Tr enc Tryd.prog W m 27 [c3] z2 := t2
 obtain ⟨x2, l2, e2, f2, k2, _⟩ := sl_openF lexR (fun x => (lexD x).f (J.all W)) Tryd.underlying27 cells82 (fun n _ => el_lex n) t2 w2
 obtain ⟨z3, t3, w3⟩ := tr_field hp 3 rfl rfl rfl cells30
 have t3 : Tr enc Tryd.prog W m 30 [c4] z3 := t3
 obtain ⟨x3, e3, q3⟩ := el_graph _ _ _ rfl t3 w3
 simp only [List.cons.injEq, and_true] at e0 e1 e2 e3
 obtain ⟨rfl, rfl⟩ := e0
 subst e1 e2 e3
 refine ⟨⟨tv, ts, fv, fs, x1, l1, x2, l2, x3⟩, rfl, fun d hd => ?_⟩
 have h0 := q0 _ (List.mem_cons_self ..)
 have h1 := q0 _ (List.mem_cons_of_mem _ (List.mem_cons_self ..))
 have h2 := q0 _ (List.mem_cons_of_mem _ (List.mem_cons_of_mem _ (List.mem_cons_self ..)))
 simp only [grmL, List.mem_cons, List.not_mem_nil, or_false] at hd
 rcases hd with rfl | rfl | rfl | rfl | rfl | rfl | rfl | rfl
 ·exact h0
 ·exact h1
 ·exact h2
 ·exact f1
 ·exact k1
 ·exact f2
 ·exact k2
 ·exact q3
theorem el_qvar : ∀ (n : Nat) (cs : List Value) (y : DataW H × List MemPlace), cs.length = 3 → Tr enc Tryd.prog W n 38 cs y → wok (y.1.weights Tryd.prog 38) = true → ∃ x : VarD, cs = varR.cells x ∧ varR.wf x ∧ True := by
 intro n
 intro cs y hl h hw
 obtain ⟨c0, c1, c2, rfl⟩ := len_3 hl
 obtain ⟨m, rfl, hp⟩ := tr_struct Tryd.underlying38 h hw
 obtain ⟨z0, t0, w0⟩ := tr_field hp 0 rfl rfl rfl cells9
 have t0 : Tr enc Tryd.prog W m 9 [c0] z0 := t0
 obtain ⟨x0, e0, k0⟩ := tr_str Tryd.underlying9 t0 w0
 obtain ⟨z1, t1, w1⟩ := tr_field hp 1 rfl rfl rfl cells3
 have t1 : Tr enc Tryd.prog W m 3 [c1] z1 := t1
 obtain ⟨x1, e1, k1⟩ := tr_int Tryd.underlying3 t1
 obtain ⟨z2, t2, w2⟩ := tr_field hp 2 rfl rfl rfl cells9
 have t2 : Tr enc Tryd.prog W m 9 [c2] z2 := t2
 obtain ⟨x2, e2, k2⟩ := tr_str Tryd.underlying9 t2 w2
 simp only [List.cons.injEq, and_true] at e0
 subst e0
 simp only [List.cons.injEq, and_true] at e1
 subst e1
 simp only [List.cons.injEq, and_true] at e2
 subst e2
 exact ⟨⟨x0, x1, x2⟩, rfl, ⟨k0, k1, k2⟩, trivial⟩
theorem el_qln : ∀ (n : Nat) (cs : List Value) (y : DataW H × List MemPlace), cs.length = 3 → Tr enc Tryd.prog W n 46 cs y → wok (y.1.weights Tryd.prog 46) = true → ∃ x : QLnD, cs = qlnR.cells x ∧ qlnR.wf x ∧ True := by
 intro n
 intro cs y hl h hw
 obtain ⟨c0, c1, c2, rfl⟩ := len_3 hl
 obtain ⟨m, rfl, hp⟩ := tr_struct Tryd.underlying46 h hw
 obtain ⟨z0, t0, w0⟩ := tr_field hp 0 rfl rfl rfl cells3
 have t0 : Tr enc Tryd.prog W m 3 [c0] z0 := t0
 obtain ⟨x0, e0, k0⟩ := tr_int Tryd.underlying3 t0
 obtain ⟨z1, t1, w1⟩ := tr_field hp 1 rfl rfl rfl cells3
 have t1 : Tr enc Tryd.prog W m 3 [c1] z1 := t1
 obtain ⟨x1, e1, k1⟩ := tr_int Tryd.underlying3 t1
 obtain ⟨z2, t2, w2⟩ := tr_field hp 2 rfl rfl rfl cells3
 have t2 : Tr enc Tryd.prog W m 3 [c2] z2 := t2
 obtain ⟨x2, e2, k2⟩ := tr_int Tryd.underlying3 t2
 simp only [List.cons.injEq, and_true] at e0
 subst e0
 simp only [List.cons.injEq, and_true] at e1
 subst e1
 simp only [List.cons.injEq, and_true] at e2
 subst e2
 exact ⟨⟨x0, x1, x2⟩, rfl, ⟨k0, k1, k2⟩, trivial⟩
theorem el_query : ∀ (n : Nat) (cs : List Value) (y : DataW H × List MemPlace), cs.length = 2 → Tr enc Tryd.prog W n 49 cs y → wok (y.1.weights Tryd.prog 49) = true → ∃ x : QryD, cs = [x.vv.1, x.kv.1] ∧ (queryD x).f (J.all W) ∧ x.vars.length * 40 ≤ 140737488351232 := by
 intro n
 intro cs y hl h hw
 obtain ⟨c0, c1, rfl⟩ := len_2 hl
 obtain ⟨m, rfl, hp⟩ := tr_struct Tryd.underlying49 h hw
 obtain ⟨z0, t0, w0⟩ := tr_field hp 0 rfl rfl rfl cells39
 have t0 : Tr enc Tryd.prog W m 39 [c0] z0 := t0
 obtain ⟨x0, l0, e0, f0, k0, s0⟩ := sl_openF varR (fun _ => True) Tryd.underlying39 cells38 (fun n _ => el_qvar n) t0 w0
 obtain ⟨z1, t1, w1⟩ := tr_field hp 1 rfl rfl rfl cells47
 have t1 : Tr enc Tryd.prog W m 47 [c1] z1 := t1
 obtain ⟨x1, l1, e1, f1, k1, s1⟩ := sl_openF qlnR (fun _ => True) Tryd.underlying47 cells46 (fun n _ => el_qln n) t1 w1
 simp only [List.cons.injEq, and_true] at e0
 subst e0
 simp only [List.cons.injEq, and_true] at e1
 subst e1
 exact ⟨⟨x0, l0, x1, l1⟩, rfl, (fun d hd => by
  simp only [queryL, List.mem_cons, List.not_mem_nil, or_false] at hd
  rcases hd with rfl | rfl
  ·exact f0
  ·exact f1), s0⟩
theorem open_grm {v : Value} {d : DataW H} {p : List MemPlace} {base0 : Nat} (hv : Value.okWide Tryd.prog W .any base0 32 v) (hw : wok (d.weights Tryd.prog 32) = true) (h : DataW.Trod enc Tryd.prog W 0 (fun _ => true) true 32 v d p) : ∃ x : GrmD, v = grmV x ∧ (grmD x).f (J.all W) := by
 obtain ⟨cs, rfl, hc⟩ := okWide_struct Tryd.underlying32 hv
 obtain ⟨fuel, hf⟩ := h
 obtain ⟨x, e, q⟩ := el_grm fuel cs.toList (d, p) (by rw [Array.length_toList, hc, cells32]) hf hw
 exact ⟨x, congrArg Value.agg (Array.toList_inj.1 e), q⟩
theorem open_tree {v : Value} {d : DataW H} {p : List MemPlace} {base0 : Nat} (hv : Value.okWide Tryd.prog W .any base0 35 v) (hw : wok (d.weights Tryd.prog 35) = true) (h : DataW.Trod enc Tryd.prog W 0 (fun _ => true) true 35 v d p) : ∃ x : TreeD, v = treeV x ∧ treeR.wf x ∧ (treeD x).f (J.all W) := by
 obtain ⟨cs, rfl, hc⟩ := okWide_struct Tryd.underlying35 hv
 obtain ⟨fuel, hf⟩ := h
 obtain ⟨x, e, k, q⟩ := el_tree fuel cs.toList (d, p) (by rw [Array.length_toList, hc, cells35]) hf hw
 exact ⟨x, congrArg Value.agg (Array.toList_inj.1 e), k, q⟩
theorem open_query {v : Value} {d : DataW H} {p : List MemPlace} {base0 : Nat} (hv : Value.okWide Tryd.prog W .any base0 49 v) (hw : wok (d.weights Tryd.prog 49) = true) (h : DataW.Trod enc Tryd.prog W 0 (fun _ => true) true 49 v d p) : ∃ x : QryD, v = queryV x ∧ (queryD x).f (J.all W) ∧ x.vars.length * 40 ≤ 140737488351232 := by
 obtain ⟨cs, rfl, hc⟩ := okWide_struct Tryd.underlying49 hv
 obtain ⟨fuel, hf⟩ := h
 obtain ⟨x, e, q, s⟩ := el_query fuel cs.toList (d, p) (by rw [Array.length_toList, hc, cells49]) hf hw
 exact ⟨x, congrArg Value.agg (Array.toList_inj.1 e), q, s⟩
end
end Go.Proofs.YtolmidffiegkaaaDoor

/-
  (YtolmidffiegkaaaDoorJ28)
  Stores of small structs into a part of a block.
  Conditions: none; everything holds of any program.
-/
namespace Go.J
open Go
section
variable {P : Program} {n : Nat} {F : Fr} {A : World → Prop} {c : Ctx} {H R : List Ent} {ty : TypeId} {x y : Operand} {v : Value} {Q : Exit → Act → World → Prop} {ops : Array Oper} {rest : List Oper}
 {pos : String} {after : Array Edge} {t e : TypeId}
theorem blk_set {b off : Nat} {L : List Value} {u : Value} {ρ : Ro} {w : World} (hm' : MmR c (blk b (.cells L.toArray e (0, 0)) :: R) ρ w) (ho : off < L.length) : w.cell? ⟨b, off, none⟩ = some L[off] ∧ w.frozen? ⟨b, off, none⟩ = false ∧
  MmR c (blk b (.cells (L.set off u).toArray e (0, 0)) :: R) ρ (w.setCell ⟨b, off, none⟩ u) := by
 have hb := blk_ok.1 (hm'.ents _ (List.mem_cons_self ..))
 refine ⟨by rw [cell?_of_blk hb]; simp, by simp [World.frozen?, hb], ?_⟩
 refine hm'.alter rfl ⟨rfl, Nat.le_refl _⟩ rfl (by simp) (fun k hk hne => ?_) (blk_ok.2 ?_) (fun b' hb' => by rw [blk_key] at hb' ⊢; exact .inl hb')
 ·rw [blk_key] at hne
  simp only [World.setCell, Array.getElem?_modify]
  rw [if_neg (fun e => hne (by rw [e]))]
 ·rw [setCell_blk hb]; simp
theorem St.subl {T : Act → World → Prop} (L : List Ent) (hs : L.Sublist H) (k : St n F (Mm c L) T) : St n F (Mm c H) T := k.weak fun w hw => by
 obtain ⟨ρ, h⟩ := hw.out
 exact Mm.mk ⟨h.os, h.tape, h.output, h.size, h.old, h.fits, h.le, h.new, fun E hE => h.ents E (hs.subset hE), fun E hE => h.own E (hs.subset hE), h.dis.sublist hs⟩
theorem St.storeAt1 {b off : Nat} {L L' : List Value} {u1 : Value} [tk : TakeB b H (.cells L.toArray e (0, 0)) R] (hx : Opd F x (.pointer (some ⟨b, off, none⟩))) (hy : Opd F y (.agg #[u1])) (hs : (P.info? t).map (·.size) = some 1) (h1 : u1.oneCell' = true)
  (hoff : Nat.ble (off + 1) L.length = true) (hL : L.set off u1 = L') (h : St n F (Mm c (blk b (.cells L'.toArray e (0, 0)) :: R)) (wpList P ops Q rest)) :
  St n F (Mm c H) (wpList P ops Q ({ dst := none, op := .store t x y, type := ty, pos := pos, after := after, guard := none } :: rest)) := by
 subst hL
 refine St.do_none (K := fun u H' => H' = blk b (.cells (L.set off u1).toArray e (0, 0)) :: R) ?_ ?_
 ·intro a w ρ ha hm
  have hm0 := hm.perm tk.perm
  obtain ⟨c1, f1, hm1⟩ := blk_set (u := u1) hm0 (Nat.le_of_ble_eq_true hoff)
  obtain ⟨i, hi, hsz⟩ := Option.map_eq_some_iff.1 hs
  refine ⟨.skip, _, ρ, _, ?_, ⟨_, .inr ⟨rfl, rfl⟩, rfl⟩, hm1⟩
  simp [execOp, hx.eval ha, hy.eval ha, Instr.storeAt, Instr.sureAddr, storeVar, sizeOf, typeInfo, hi, hsz, cells_agg, storeCells, run_store P w _ u1 _ h1, c1, f1, Addr.add_zero', Addr.add_lit]
 ·rintro _ _ rfl
  exact h
theorem St.storeAt2 {b off : Nat} {L L' : List Value} {u1 u2 : Value} [tk : TakeB b H (.cells L.toArray e (0, 0)) R] (hx : Opd F x (.pointer (some ⟨b, off, none⟩))) (hy : Opd F y (.agg #[u1, u2])) (hs : (P.info? t).map (·.size) = some 2) (h1 : u1.oneCell' = true) (h2 : u2.oneCell' = true)
  (hoff : Nat.ble (off + 2) L.length = true) (hL : (L.set off u1).set (off + 1) u2 = L') (h : St n F (Mm c (blk b (.cells L'.toArray e (0, 0)) :: R)) (wpList P ops Q rest)) :
  St n F (Mm c H) (wpList P ops Q ({ dst := none, op := .store t x y, type := ty, pos := pos, after := after, guard := none } :: rest)) := by
 subst hL
 refine St.do_none (K := fun u H' => H' = blk b (.cells ((L.set off u1).set (off + 1) u2).toArray e (0, 0)) :: R) ?_ ?_
 ·intro a w ρ ha hm
  have hm0 := hm.perm tk.perm
  have ho := Nat.le_of_ble_eq_true hoff
  obtain ⟨c1, f1, hm1⟩ := blk_set (u := u1) hm0 (show off < L.length by omega)
  obtain ⟨c2, f2, hm2⟩ := blk_set (u := u2) hm1 (show off + 1 < (L.set off u1).length by rw [List.length_set]; omega)
  obtain ⟨i, hi, hsz⟩ := Option.map_eq_some_iff.1 hs
  refine ⟨.skip, _, ρ, _, ?_, ⟨_, .inr ⟨rfl, rfl⟩, rfl⟩, hm2⟩
  simp [execOp, hx.eval ha, hy.eval ha, Instr.storeAt, Instr.sureAddr, storeVar, sizeOf, typeInfo, hi, hsz, cells_agg, storeCells, run_store P w _ u1 _ h1, run_store P _ _ u2 _ h2, c1, f1, c2, f2, Addr.add_zero', Addr.add_lit]
 ·rintro _ _ rfl
  exact h
end
end Go.J

/-
  (YtolmidffiegkaaaDoorJ29)
  Loads of structs that lie in a part of a block; induction over types, terms, trees.
  Conditions: none; everything holds of any program.
-/
namespace Go.J
open Go
section
variable {P : Program} {n : Nat} {F : Fr} {c : Ctx} {H R : List Ent} {ty : TypeId} {x y : Operand} {t e : TypeId}
theorem Ev.ldbP {b off : Nat} {dd : TypeDesc} {fr : Nat × Nat} {L L' : List Value} [hb : InB b H (.cells L.toArray e fr)] (m : Nat) (hx : Opd F x (.pointer (some ⟨b, off, none⟩))) (ht : P.underlying t = some dd) (hk1 : (match dd with | .struct _ | .array _ _ => True | _ => False))
  (hs : (P.info? t).map (·.size) = some m) (hL : (L.drop off).take m = L') (hl : L'.length = m) : Ev P n F (Mm c H) (.load t x) ty (.agg L'.toArray) := .of_run fun a w ha hw => by
 obtain ⟨ρ, hm⟩ := hw.out
 have h1 := blk_ok.1 (hm.ents _ hb.mem)
 have h4 := run_loadVar_agg (P := P) (w := w) (b := b) (off := off) (L := L') ht hk1 (by rw [hl]; exact hs) (fun j u hj => by
  rw [cell?_of_blk h1]
  rw [← hL, List.getElem?_take] at hj
  split at hj
  ·rw [List.getElem?_drop] at hj; simpa using hj
  ·cases hj)
 simp [execOp, hx.eval ha, Instr.loadAt, Instr.sureAddr, h4]
end
theorem SimD.ind {p : SimD → Prop} (h : ∀ x, (∀ y ∈ x.args, p y) → p x) (x : SimD) : p x :=
 SimD.rec (motive_1 := p) (motive_2 := fun l => ∀ y ∈ l, p y) (fun b v l ih => h (.mk b v l) ih) (fun y hy => by cases hy) (fun a l ha hl y hy => by
  rcases List.mem_cons.1 hy with rfl | hy
  ·exact ha
  ·exact hl y hy) x
theorem TermD.ind {p : TermD → Prop} (h : ∀ x, (∀ y ∈ x.args, p y) → p x) (x : TermD) : p x :=
 TermD.rec (motive_1 := p) (motive_2 := fun l => ∀ y ∈ l, p y) (fun k s i t v l ih => h (.mk k s i t v l) ih) (fun y hy => by cases hy) (fun a l ha hl y hy => by
  rcases List.mem_cons.1 hy with rfl | hy
  ·exact ha
  ·exact hl y hy) x
theorem TreeD.ind {p : TreeD → Prop} (h : ∀ x, (∀ y ∈ x.kids, p y) → p x) (x : TreeD) : p x :=
 TreeD.rec (motive_1 := p) (motive_2 := fun l => ∀ y ∈ l, p y) (fun r i v l ih => h (.mk r i v l) ih) (fun y hy => by cases hy) (fun a l ha hl y hy => by
  rcases List.mem_cons.1 hy with rfl | hy
  ·exact ha
  ·exact hl y hy) x
end Go.J

/-
  (YtolmidffiegkaaaDoorFactsQ)
  Closed facts on the tables of the program: sizes, zero values, where fields lie, which functions have bodies.
  Conditions: none.
-/
set_option maxRecDepth 20000
set_option linter.unusedSimpArgs false
set_option linter.unusedVariables false
namespace Go.Proofs.YtolmidffiegkaaaDoor
open Go Go.J
theorem mixed : Tryd.prog.follows .mixedOrders = true := by kernel_rfl
theorem zc77 : (Tryd.prog.info? 77).bind (fun i => i.zero.map Value.cells) = some #[.string ⟨#[]⟩, .slice none 0 0] := by kernel_rfl
theorem pl77 (w : World) : placesRun Tryd.prog 77 w = .ok #[(0, 1), (1, 1)] w := by kernel_rfl
theorem sz77 : (Tryd.prog.info? 77).map (·.size) = some 2 := by kernel_rfl
theorem zv77 : (Tryd.prog.info? 77).bind (·.zero) = some (Value.agg #[.string ⟨#[]⟩, .slice none 0 0]) := by kernel_rfl
theorem zc80 : (Tryd.prog.info? 80).bind (fun i => i.zero.map Value.cells) = some #[.int .i64 0, .string ⟨#[]⟩, .int .i64 0, .string ⟨#[]⟩, .slice none 0 0, .slice none 0 0] := by kernel_rfl
theorem pl80 (w : World) : placesRun Tryd.prog 80 w = .ok #[(0, 1), (1, 1), (2, 1), (3, 2), (5, 1)] w := by kernel_rfl
theorem sz80 : (Tryd.prog.info? 80).map (·.size) = some 6 := by kernel_rfl
theorem zv80 : (Tryd.prog.info? 80).bind (·.zero) = some (Value.agg #[.int .i64 0, .string ⟨#[]⟩, .int .i64 0, .string ⟨#[]⟩, .slice none 0 0, .slice none 0 0]) := by kernel_rfl
theorem cb25 : Callable Tryd.prog 25 := ⟨_, Tryd.func25, rfl, by kernel_rfl⟩
theorem cb26 : Callable Tryd.prog 26 := ⟨_, Tryd.func26, rfl, by kernel_rfl⟩
theorem cb32 : Callable Tryd.prog 32 := ⟨_, Tryd.func32, rfl, by kernel_rfl⟩
theorem cb35 : Callable Tryd.prog 35 := ⟨_, Tryd.func35, rfl, by kernel_rfl⟩
theorem cb34 : Callable Tryd.prog 34 := ⟨_, Tryd.func34, rfl, by kernel_rfl⟩
theorem cb33 : Callable Tryd.prog 33 := ⟨_, Tryd.func33, rfl, by kernel_rfl⟩
theorem zc30 : (Tryd.prog.info? 30).bind (fun i => i.zero.map Value.cells) = some #[.slice none 0 0] := by kernel_rfl
theorem sz57 : (Tryd.prog.info? 57).map (·.size) = some 1 := by kernel_rfl
theorem sz3 : (Tryd.prog.info? 3).map (·.size) = some 1 := by kernel_rfl
theorem pl116 (w : World) : placesRun Tryd.prog 116 w = .ok #[(0, 1), (1, 1)] w := by kernel_rfl
theorem zc116 : (Tryd.prog.info? 116).bind (fun i => i.zero.map Value.cells) = some #[.int .i64 0, .slice none 0 0] := by kernel_rfl
theorem sz116 : (Tryd.prog.info? 116).map (·.size) = some 2 := by kernel_rfl
theorem fo116_1 : fieldOff Tryd.prog 116 1 = some 1 := by kernel_rfl
theorem pl118 (w : World) : placesRun Tryd.prog 118 w = .ok #[(0, 1), (1, 1)] w := by kernel_rfl
theorem zc118 : (Tryd.prog.info? 118).bind (fun i => i.zero.map Value.cells) = some #[.int .i64 0, .int .i64 0] := by kernel_rfl
theorem sz118 : (Tryd.prog.info? 118).map (·.size) = some 2 := by kernel_rfl
theorem zv118 : (Tryd.prog.info? 118).bind (·.zero) = some (Value.agg #[.int .i64 0, .int .i64 0]) := by kernel_rfl
theorem by118 : (Tryd.prog.info? 118).map (·.bytes) = some 16 := by kernel_rfl
theorem sz114 : (Tryd.prog.info? 114).map (·.size) = some 1 := by kernel_rfl
theorem fo30_0 : fieldOff Tryd.prog 30 0 = some 0 := by kernel_rfl
theorem zv116 : (Tryd.prog.info? 116).bind (·.zero) = some (Value.agg #[.int .i64 0, .slice none 0 0]) := by kernel_rfl
theorem by116 : (Tryd.prog.info? 116).map (·.bytes) = some 32 := by kernel_rfl
theorem sz28 : (Tryd.prog.info? 28).map (·.size) = some 1 := by kernel_rfl
theorem sz30 : (Tryd.prog.info? 30).map (·.size) = some 1 := by kernel_rfl
theorem zc25 : (Tryd.prog.info? 25).bind (fun i => i.zero.map Value.cells) = some #[.slice none 0 0, .slice none 0 0] := by kernel_rfl
theorem sz9 : (Tryd.prog.info? 9).map (·.size) = some 1 := by kernel_rfl
theorem pl113 (w : World) : placesRun Tryd.prog 113 w = .ok #[(0, 1), (1, 1)] w := by kernel_rfl
theorem zc113 : (Tryd.prog.info? 113).bind (fun i => i.zero.map Value.cells) = some #[.string ⟨#[]⟩, .slice none 0 0] := by kernel_rfl
theorem sz113 : (Tryd.prog.info? 113).map (·.size) = some 2 := by kernel_rfl
theorem zv3 : (Tryd.prog.info? 3).bind (·.zero) = some (Value.int .i64 0) := by kernel_rfl
theorem fo113_1 : fieldOff Tryd.prog 113 1 = some 1 := by kernel_rfl
theorem fo25_0 : fieldOff Tryd.prog 25 0 = some 0 := by kernel_rfl
theorem zv113 : (Tryd.prog.info? 113).bind (·.zero) = some (Value.agg #[.string ⟨#[]⟩, .slice none 0 0]) := by kernel_rfl
theorem by113 : (Tryd.prog.info? 113).map (·.bytes) = some 40 := by kernel_rfl
theorem sz22 : (Tryd.prog.info? 22).map (·.size) = some 1 := by kernel_rfl
theorem fo25_1 : fieldOff Tryd.prog 25 1 = some 1 := by kernel_rfl
theorem sz23 : (Tryd.prog.info? 23).map (·.size) = some 1 := by kernel_rfl
theorem sz25 : (Tryd.prog.info? 25).map (·.size) = some 2 := by kernel_rfl
theorem fo32_2 : fieldOff Tryd.prog 32 2 = some 3 := by kernel_rfl
theorem cb29 : Callable Tryd.prog 29 := ⟨_, Tryd.func29, rfl, by kernel_rfl⟩
theorem pl82 (w : World) : placesRun Tryd.prog 82 w = .ok #[(0, 1), (1, 1), (2, 1), (3, 6)] w := by kernel_rfl
theorem zc82 : (Tryd.prog.info? 82).bind (fun i => i.zero.map Value.cells) = some #[.string ⟨#[]⟩, .slice none 0 0, .int .i64 0, .int .i64 0, .string ⟨#[]⟩, .int .i64 0, .string ⟨#[]⟩, .slice none 0 0, .slice none 0 0] := by kernel_rfl
theorem sz82 : (Tryd.prog.info? 82).map (·.size) = some 9 := by kernel_rfl
theorem zv82 : (Tryd.prog.info? 82).bind (·.zero) = some (Value.agg #[.string ⟨#[]⟩, .slice none 0 0, .int .i64 0, .int .i64 0, .string ⟨#[]⟩, .int .i64 0, .string ⟨#[]⟩, .slice none 0 0, .slice none 0 0]) := by kernel_rfl
theorem by82 : (Tryd.prog.info? 82).map (·.bytes) = some 144 := by kernel_rfl
theorem sz27 : (Tryd.prog.info? 27).map (·.size) = some 1 := by kernel_rfl
theorem zc32 : (Tryd.prog.info? 32).bind (fun i => i.zero.map Value.cells) = some #[.slice none 0 0, .slice none 0 0, .slice none 0 0, .slice none 0 0, .slice none 0 0] := by kernel_rfl
theorem zv9 : (Tryd.prog.info? 9).bind (·.zero) = some (Value.string ⟨#[]⟩) := by kernel_rfl
theorem pl87 (w : World) : placesRun Tryd.prog 87 w = .ok #[(0, 1), (1, 1), (2, 1)] w := by kernel_rfl
theorem zc87 : (Tryd.prog.info? 87).bind (fun i => i.zero.map Value.cells) = some #[.string ⟨#[]⟩, .int .i64 0, .int .i64 0] := by kernel_rfl
theorem sz87 : (Tryd.prog.info? 87).map (·.size) = some 3 := by kernel_rfl
theorem zv87 : (Tryd.prog.info? 87).bind (·.zero) = some (Value.agg #[.string ⟨#[]⟩, .int .i64 0, .int .i64 0]) := by kernel_rfl
theorem cb27 : Callable Tryd.prog 27 := ⟨_, Tryd.func27, rfl, by kernel_rfl⟩
theorem fo32_0 : fieldOff Tryd.prog 32 0 = some 0 := by kernel_rfl
theorem cb28 : Callable Tryd.prog 28 := ⟨_, Tryd.func28, rfl, by kernel_rfl⟩
theorem zv57 : (Tryd.prog.info? 57).bind (·.zero) = some (Value.slice none 0 0) := by kernel_rfl
theorem pl91 (w : World) : placesRun Tryd.prog 91 w = .ok #[(0, 1), (1, 1), (2, 1), (3, 1), (4, 6)] w := by kernel_rfl
theorem zc91 : (Tryd.prog.info? 91).bind (fun i => i.zero.map Value.cells) = some #[.string ⟨#[]⟩, .slice none 0 0, .int .i64 0, .int .i64 0, .int .i64 0, .string ⟨#[]⟩, .int .i64 0, .string ⟨#[]⟩, .slice none 0 0, .slice none 0 0] := by kernel_rfl
theorem sz91 : (Tryd.prog.info? 91).map (·.size) = some 10 := by kernel_rfl
theorem zv91 : (Tryd.prog.info? 91).bind (·.zero) = some (Value.agg #[.string ⟨#[]⟩, .slice none 0 0, .int .i64 0, .int .i64 0, .int .i64 0, .string ⟨#[]⟩, .int .i64 0, .string ⟨#[]⟩, .slice none 0 0, .slice none 0 0]) := by kernel_rfl
theorem fo32_1 : fieldOff Tryd.prog 32 1 = some 2 := by kernel_rfl
theorem sz26 : (Tryd.prog.info? 26).map (·.size) = some 1 := by kernel_rfl
theorem cb31 : Callable Tryd.prog 31 := ⟨_, Tryd.func31, rfl, by kernel_rfl⟩
theorem cb30 : Callable Tryd.prog 30 := ⟨_, Tryd.func30, rfl, by kernel_rfl⟩
theorem fo32_3 : fieldOff Tryd.prog 32 3 = some 4 := by kernel_rfl
theorem sz32 : (Tryd.prog.info? 32).map (·.size) = some 5 := by kernel_rfl
theorem zc42 : (Tryd.prog.info? 42).bind (fun i => i.zero.map Value.cells) = some #[.int .i64 0, .int .i64 0] := by kernel_rfl
theorem pl42 (w : World) : placesRun Tryd.prog 42 w = .ok #[(0, 1), (1, 1)] w := by kernel_rfl
theorem sz42 : (Tryd.prog.info? 42).map (·.size) = some 2 := by kernel_rfl
theorem fo77_0 : fieldOff Tryd.prog 77 0 = some 0 := by kernel_rfl
theorem fo77_1 : fieldOff Tryd.prog 77 1 = some 1 := by kernel_rfl
theorem cb80 : Callable Tryd.prog 80 := ⟨_, Tryd.func80, rfl, by kernel_rfl⟩
theorem zc3 : (Tryd.prog.info? 3).bind (fun i => i.zero.map Value.cells) = some #[.int .i64 0] := by kernel_rfl
theorem zc163 : (Tryd.prog.info? 163).bind (fun i => i.zero.map Value.cells) = some #[.nilFunc] := by kernel_rfl
theorem sz163 : (Tryd.prog.info? 163).map (·.size) = some 1 := by kernel_rfl
theorem cb81 : Callable Tryd.prog 81 := ⟨_, Tryd.func81, rfl, by kernel_rfl⟩
theorem cb68 : Callable Tryd.prog 68 := ⟨_, Tryd.func68, rfl, by kernel_rfl⟩
theorem fo80_0 : fieldOff Tryd.prog 80 0 = some 0 := by kernel_rfl
theorem fo80_2 : fieldOff Tryd.prog 80 2 = some 2 := by kernel_rfl
theorem fo80_4 : fieldOff Tryd.prog 80 4 = some 5 := by kernel_rfl
theorem fo80_1 : fieldOff Tryd.prog 80 1 = some 1 := by kernel_rfl
theorem cb40 : Callable Tryd.prog 40 := ⟨_, Tryd.func40, rfl, by kernel_rfl⟩
theorem fo80_3 : fieldOff Tryd.prog 80 3 = some 3 := by kernel_rfl
theorem cb69 : Callable Tryd.prog 69 := ⟨_, Tryd.func69, rfl, by kernel_rfl⟩
theorem cb70 : Callable Tryd.prog 70 := ⟨_, Tryd.func70, rfl, by kernel_rfl⟩
theorem cb67 : Callable Tryd.prog 67 := ⟨_, Tryd.func67, rfl, by kernel_rfl⟩
theorem fo42_0 : fieldOff Tryd.prog 42 0 = some 0 := by kernel_rfl
theorem by77 : (Tryd.prog.info? 77).map (·.bytes) = some 40 := by kernel_rfl
theorem cb71 : Callable Tryd.prog 71 := ⟨_, Tryd.func71, rfl, by kernel_rfl⟩
theorem zc141 : (Tryd.prog.info? 141).bind (fun i => i.zero.map Value.cells) = some #[.nilFunc] := by kernel_rfl
theorem sz141 : (Tryd.prog.info? 141).map (·.size) = some 1 := by kernel_rfl
theorem cb51 : Callable Tryd.prog 51 := ⟨_, Tryd.func51, rfl, by kernel_rfl⟩
theorem fo113_0 : fieldOff Tryd.prog 113 0 = some 0 := by kernel_rfl
theorem zc102 : (Tryd.prog.info? 102).bind (fun i => i.zero.map Value.cells) = some #[.slice none 0 0, .slice none 0 0] := by kernel_rfl
theorem sz130 : (Tryd.prog.info? 130).map (·.size) = some 1 := by kernel_rfl
theorem zv130 : (Tryd.prog.info? 130).bind (·.zero) = some (Value.int .u64 0) := by kernel_rfl
theorem by130 : (Tryd.prog.info? 130).map (·.bytes) = some 8 := by kernel_rfl
theorem pl102 (w : World) : placesRun Tryd.prog 102 w = .ok #[(0, 1), (1, 1)] w := by kernel_rfl
theorem sz102 : (Tryd.prog.info? 102).map (·.size) = some 2 := by kernel_rfl
theorem fo102_0 : fieldOff Tryd.prog 102 0 = some 0 := by kernel_rfl
theorem fo102_1 : fieldOff Tryd.prog 102 1 = some 1 := by kernel_rfl
theorem cb65 : Callable Tryd.prog 65 := ⟨_, Tryd.func65, rfl, by kernel_rfl⟩
theorem cb52 : Callable Tryd.prog 52 := ⟨_, Tryd.func52, rfl, by kernel_rfl⟩
theorem cb39 : Callable Tryd.prog 39 := ⟨_, Tryd.func39, rfl, by kernel_rfl⟩
theorem cb53 : Callable Tryd.prog 53 := ⟨_, Tryd.func53, rfl, by kernel_rfl⟩
theorem fo87_0 : fieldOff Tryd.prog 87 0 = some 0 := by kernel_rfl
theorem fo87_1 : fieldOff Tryd.prog 87 1 = some 1 := by kernel_rfl
theorem fo87_2 : fieldOff Tryd.prog 87 2 = some 2 := by kernel_rfl
theorem cb58 : Callable Tryd.prog 58 := ⟨_, Tryd.func58, rfl, by kernel_rfl⟩
theorem fo116_0 : fieldOff Tryd.prog 116 0 = some 0 := by kernel_rfl
theorem fo118_0 : fieldOff Tryd.prog 118 0 = some 0 := by kernel_rfl
theorem fo118_1 : fieldOff Tryd.prog 118 1 = some 1 := by kernel_rfl
theorem sz4 : (Tryd.prog.info? 4).map (·.size) = some 1 := by kernel_rfl
theorem zv4 : (Tryd.prog.info? 4).bind (·.zero) = some (Value.bool false) := by kernel_rfl
theorem by4 : (Tryd.prog.info? 4).map (·.bytes) = some 1 := by kernel_rfl
theorem by3 : (Tryd.prog.info? 3).map (·.bytes) = some 8 := by kernel_rfl
theorem cb72 : Callable Tryd.prog 72 := ⟨_, Tryd.func72, rfl, by kernel_rfl⟩
theorem cb56 : Callable Tryd.prog 56 := ⟨_, Tryd.func56, rfl, by kernel_rfl⟩
theorem cb57 : Callable Tryd.prog 57 := ⟨_, Tryd.func57, rfl, by kernel_rfl⟩
theorem cb59 : Callable Tryd.prog 59 := ⟨_, Tryd.func59, rfl, by kernel_rfl⟩
theorem cb86 : Callable Tryd.prog 86 := ⟨_, Tryd.func86, rfl, by kernel_rfl⟩
theorem cb79 : Callable Tryd.prog 79 := ⟨_, Tryd.func79, rfl, by kernel_rfl⟩
theorem cb78 : Callable Tryd.prog 78 := ⟨_, Tryd.func78, rfl, by kernel_rfl⟩
theorem cb77 : Callable Tryd.prog 77 := ⟨_, Tryd.func77, rfl, by kernel_rfl⟩
theorem cb66 : Callable Tryd.prog 66 := ⟨_, Tryd.func66, rfl, by kernel_rfl⟩
theorem bld77_0 {u0 : Value} (h0 : u0.oneCell' = true) (w : World) : (Instr.build 77 #[(0, u0)]).run Tryd.prog w = .ok (.agg #[u0, .slice none 0 0]) w :=
 run_buildS zc77 (pl77 w) (by simp [Instr.fill, J.cells_agg, J.cells_one h0])
theorem bld80_0_1_3 {u0 u1 u3_0 u3_1 : Value} (h0 : u0.oneCell' = true) (h1 : u1.oneCell' = true) (w : World) : (Instr.build 80 #[(0, u0), (1, u1), (3, .agg #[u3_0, u3_1])]).run Tryd.prog w = .ok (.agg #[u0, u1, .int .i64 0, u3_0, u3_1, .slice none 0 0]) w :=
 run_buildS zc80 (pl80 w) (by simp [Instr.fill, J.cells_agg, J.cells_one h0, J.cells_one h1])
theorem bld80_0_2 {u0 u2 : Value} (h0 : u0.oneCell' = true) (h2 : u2.oneCell' = true) (w : World) : (Instr.build 80 #[(0, u0), (2, u2)]).run Tryd.prog w = .ok (.agg #[u0, .string ⟨#[]⟩, u2, .string ⟨#[]⟩, .slice none 0 0, .slice none 0 0]) w :=
 run_buildS zc80 (pl80 w) (by simp [Instr.fill, J.cells_agg, J.cells_one h0, J.cells_one h2])
theorem bld80_0_3_4 {u0 u3_0 u3_1 u4 : Value} (h0 : u0.oneCell' = true) (h4 : u4.oneCell' = true) (w : World) : (Instr.build 80 #[(0, u0), (3, .agg #[u3_0, u3_1]), (4, u4)]).run Tryd.prog w = .ok (.agg #[u0, .string ⟨#[]⟩, .int .i64 0, u3_0, u3_1, u4]) w :=
 run_buildS zc80 (pl80 w) (by simp [Instr.fill, J.cells_agg, J.cells_one h0, J.cells_one h4])
theorem bld80_0_4 {u0 u4 : Value} (h0 : u0.oneCell' = true) (h4 : u4.oneCell' = true) (w : World) : (Instr.build 80 #[(0, u0), (4, u4)]).run Tryd.prog w = .ok (.agg #[u0, .string ⟨#[]⟩, .int .i64 0, .string ⟨#[]⟩, .slice none 0 0, u4]) w :=
 run_buildS zc80 (pl80 w) (by simp [Instr.fill, J.cells_agg, J.cells_one h0, J.cells_one h4])
theorem bld116_0 {u0 : Value} (h0 : u0.oneCell' = true) (w : World) : (Instr.build 116 #[(0, u0)]).run Tryd.prog w = .ok (.agg #[u0, .slice none 0 0]) w :=
 run_buildS zc116 (pl116 w) (by simp [Instr.fill, J.cells_agg, J.cells_one h0])
theorem bld118_0_1 {u0 u1 : Value} (h0 : u0.oneCell' = true) (h1 : u1.oneCell' = true) (w : World) : (Instr.build 118 #[(0, u0), (1, u1)]).run Tryd.prog w = .ok (.agg #[u0, u1]) w :=
 run_buildS zc118 (pl118 w) (by simp [Instr.fill, J.cells_agg, J.cells_one h0, J.cells_one h1])
theorem bld113_0 {u0 : Value} (h0 : u0.oneCell' = true) (w : World) : (Instr.build 113 #[(0, u0)]).run Tryd.prog w = .ok (.agg #[u0, .slice none 0 0]) w :=
 run_buildS zc113 (pl113 w) (by simp [Instr.fill, J.cells_agg, J.cells_one h0])
theorem bld82_0_2_3_1 {u0 u2 u3_0 u3_1 u3_2 u3_3 u3_4 u3_5 u1_0 : Value} (h0 : u0.oneCell' = true) (h2 : u2.oneCell' = true) (w : World) : (Instr.build 82 #[(0, u0), (2, u2), (3, .agg #[u3_0, u3_1, u3_2, u3_3, u3_4, u3_5]), (1, .agg #[u1_0])]).run Tryd.prog w = .ok (.agg #[u0, u1_0, u2, u3_0, u3_1, u3_2, u3_3, u3_4, u3_5]) w :=
 run_buildS zc82 (pl82 w) (by simp [Instr.fill, J.cells_agg, J.cells_one h0, J.cells_one h2])
theorem bld87_0_1_2 {u0 u1 u2 : Value} (h0 : u0.oneCell' = true) (h1 : u1.oneCell' = true) (h2 : u2.oneCell' = true) (w : World) : (Instr.build 87 #[(0, u0), (1, u1), (2, u2)]).run Tryd.prog w = .ok (.agg #[u0, u1, u2]) w :=
 run_buildS zc87 (pl87 w) (by simp [Instr.fill, J.cells_agg, J.cells_one h0, J.cells_one h1, J.cells_one h2])
theorem bld91_0_2_4_1 {u0 u2 u4_0 u4_1 u4_2 u4_3 u4_4 u4_5 u1_0 : Value} (h0 : u0.oneCell' = true) (h2 : u2.oneCell' = true) (w : World) : (Instr.build 91 #[(0, u0), (2, u2), (4, .agg #[u4_0, u4_1, u4_2, u4_3, u4_4, u4_5]), (1, .agg #[u1_0])]).run Tryd.prog w = .ok (.agg #[u0, u1_0, u2, .int .i64 0, u4_0, u4_1, u4_2, u4_3, u4_4, u4_5]) w :=
 run_buildS zc91 (pl91 w) (by simp [Instr.fill, J.cells_agg, J.cells_one h0, J.cells_one h2])
theorem bld91_0_2_3_4_1 {u0 u2 u3 u4_0 u4_1 u4_2 u4_3 u4_4 u4_5 u1_0 : Value} (h0 : u0.oneCell' = true) (h2 : u2.oneCell' = true) (h3 : u3.oneCell' = true) (w : World) : (Instr.build 91 #[(0, u0), (2, u2), (3, u3), (4, .agg #[u4_0, u4_1, u4_2, u4_3, u4_4, u4_5]), (1, .agg #[u1_0])]).run Tryd.prog w = .ok (.agg #[u0, u1_0, u2, u3, u4_0, u4_1, u4_2, u4_3, u4_4, u4_5]) w :=
 run_buildS zc91 (pl91 w) (by simp [Instr.fill, J.cells_agg, J.cells_one h0, J.cells_one h2, J.cells_one h3])
theorem bld42_0 {u0 : Value} (h0 : u0.oneCell' = true) (w : World) : (Instr.build 42 #[(0, u0)]).run Tryd.prog w = .ok (.agg #[u0, .int .i64 0]) w :=
 run_buildS zc42 (pl42 w) (by simp [Instr.fill, J.cells_agg, J.cells_one h0])
theorem bld77_1 {u1 : Value} (h1 : u1.oneCell' = true) (w : World) : (Instr.build 77 #[(1, u1)]).run Tryd.prog w = .ok (.agg #[.string ⟨#[]⟩, u1]) w :=
 run_buildS zc77 (pl77 w) (by simp [Instr.fill, J.cells_agg, J.cells_one h1])
theorem bld77_  (w : World) : (Instr.build 77 #[]).run Tryd.prog w = .ok (.agg #[.string ⟨#[]⟩, .slice none 0 0]) w :=
 run_buildS zc77 (pl77 w) (by simp [Instr.fill, J.cells_agg])
theorem bld42_0_1 {u0 u1 : Value} (h0 : u0.oneCell' = true) (h1 : u1.oneCell' = true) (w : World) : (Instr.build 42 #[(0, u0), (1, u1)]).run Tryd.prog w = .ok (.agg #[u0, u1]) w :=
 run_buildS zc42 (pl42 w) (by simp [Instr.fill, J.cells_agg, J.cells_one h0, J.cells_one h1])
theorem bld102_0_1 {u0 u1 : Value} (h0 : u0.oneCell' = true) (h1 : u1.oneCell' = true) (w : World) : (Instr.build 102 #[(0, u0), (1, u1)]).run Tryd.prog w = .ok (.agg #[u0, u1]) w :=
 run_buildS zc102 (pl102 w) (by simp [Instr.fill, J.cells_agg, J.cells_one h0, J.cells_one h1])
theorem bld42_  (w : World) : (Instr.build 42 #[]).run Tryd.prog w = .ok (.agg #[.int .i64 0, .int .i64 0]) w :=
 run_buildS zc42 (pl42 w) (by simp [Instr.fill, J.cells_agg])
end Go.Proofs.YtolmidffiegkaaaDoor

/-
  (YtolmidffiegkaaaDoorQ1)
  The walks of what makes types and terms.
  Conditions: none beyond the sizes.
-/
set_option maxRecDepth 20000
set_option linter.unusedSimpArgs false
set_option linter.unusedVariables false
namespace Go.Proofs.YtolmidffiegkaaaDoor
open Go Go.J
theorem simE_mk (b : Str) (v : OneV) (l : List SimD) : simE (.mk b v l) = .mk b (l.map simE) := by rw [simE, simEL_map]
theorem termE_mk (k : Int) (s : Str) (i : Int) (t : SimD) (v : OneV) (l : List TermD) : termE (.mk k s i t v l) = .mk k s i (simE t) (l.map termE) := by rw [termE, termEL_map]
abbrev S0 : Sm0 := .mk [] []
abbrev simN : SimD := .mk [] nilV []
theorem two_of {α : Type} {p : α → Prop} {x y : α} (hx : p x) (hy : p y) : ∀ z ∈ [x, y], p z := fun z hz => by
 simp only [List.mem_cons, List.not_mem_nil, or_false] at hz
 rcases hz with rfl | rfl
 ·exact hx
 ·exact hy
theorem one_of {α : Type} {p : α → Prop} {x : α} (hx : p x) : ∀ z ∈ [x], p z := fun z hz => by rw [List.mem_singleton.1 hz]; exact hx
theorem i64_1 : i64ok 1 := by unfold i64ok; decide
theorem i64_2 : i64ok 2 := by unfold i64ok; decide
theorem i64_3 : i64ok 3 := by unfold i64ok; decide
theorem i64_4 : i64ok 4 := by unfold i64ok; decide
theorem i64_0 : i64ok 0 := by unfold i64ok; decide
theorem base_spec (s : Str) (hs : slen s) : FnH Tryd.prog 25 #[sv s] ([].map dat) (fun v H' => H' = [dat (isSim (.mk s []) v)]) := by
 refine FnH.body (args := [sv s]) 5 Tryd.func25 rfl Tryd.ntmps25 rfl (fun c => ?_)
 refine St.cast (H' := []) rfl ?_
 refine St.seq (St.rg ?_)
 refine St.alloc zc77 rfl (fun b2 => ?_)
 refine St.nil (St.then_normal (St.seq (St.rg ?_)))
 refine St.mv ?_
 refine St.ev _ (Ev.build (ps := [(0, (.tmp 3))]) (Opds.cons (Opd.mk rfl) Opds.nil) (fun w => bld77_0 rfl w)) rfl ?_
 refine St.storeA (Opd.mk rfl) (Opd.mk rfl) sz77 (by first | simp only [List.length_cons, List.length_nil] | rfl) rfl ?_
 refine St.nil (St.then_normal (St.rett ?_))
 refine St.slNil simR ?_
 refine St.dallNil simD ?_
 refine St.mkSim s (.slice none 0 0) rfl [] ?_
 refine St.toSim (.mk s nilV []) (s := .mk s []) (simV (.mk s nilV [])) rfl (simE_mk _ _ _) hs ?_
 refine St.rets [_] [dat (isSim (.mk s []) (simV (.mk s nilV [])))] Tryd.results25 ⟨⟨_, _, _, _, rfl, InB.mem, .inl ⟨⟨_, Tryd.underlying77⟩, sz77, rfl⟩⟩, trivial⟩ ?_ (fun _ hw => hw.sub)
 rfl
theorem fun_spec (u1 u2 : Value) (s1 s2 : Sm0) : FnH Tryd.prog 26 #[u1, u2] ([isSim s1 u1, isSim s2 u2].map dat) (fun v H' => H' = [dat (isSim (.mk [] [s1, s2]) v)]) := by
 refine FnH.body (args := [u1, u2]) 9 Tryd.func26 rfl Tryd.ntmps26 rfl (fun c => ?_)
 refine St.cast (H' := [dat (isSim s1 u1), dat (isSim s2 u2)]) rfl ?_
 refine St.seq ?_
 refine St.isSim s1 u1 (fun x hx => ?_)
 obtain ⟨rfl, rfl, hxw⟩ := hx
 refine St.isSim s2 u2 (fun y hy => ?_)
 obtain ⟨rfl, rfl, hyw⟩ := hy
 refine St.rg ?_
 refine St.boxA (.mk rfl) rfl (fun b2 => ?_)
 refine St.boxA (.mk rfl) rfl (fun b3 => ?_)
 refine St.alloc zc77 rfl (fun b4 => ?_)
 refine St.nil (St.then_normal (St.seq (St.rg ?_)))
 refine St.ev _ (Ev.ldbA (.mk rfl) Tryd.underlying77 trivial (by exact sz77)) rfl ?_
 refine St.ev _ (Ev.ldbA (.mk rfl) Tryd.underlying77 trivial (by exact sz77)) rfl ?_
 refine St.bsl rfl (.cons (.mk rfl) (.cons (.mk rfl) .nil)) Tryd.underlying75 sz77 zv77 rfl rfl (by simp [Value.cells]) rfl rfl (fun b7 => ?_)
 refine St.publish (.slice (some ⟨b7, 0, none⟩) 2 2) simR [x, y] rfl rfl (two_of hxw hyw) ?_
 refine St.dallNil simD ?_
 refine St.dallCons simD (xs := []) (x := y) ?_
 refine St.dallCons simD (xs := [y]) (x := x) ?_
 refine St.mkSim [] (.slice (some ⟨b7, 0, none⟩) 2 2) rfl [x, y] ?_
 refine St.ev _ (Ev.build (ps := [(1, (.tmp 7))]) (Opds.cons (Opd.mk rfl) Opds.nil) (fun w => bld77_1 rfl w)) rfl ?_
 refine St.storeA (Opd.mk rfl) (Opd.mk rfl) sz77 (by first | simp only [List.length_cons, List.length_nil] | rfl) rfl ?_
 refine St.nil (St.then_normal (St.rett ?_))
 refine St.toSim (.mk [] ⟨(.slice (some ⟨b7, 0, none⟩) 2 2), rfl⟩ [x, y]) (s := .mk [] [simE x, simE y]) (simV (.mk [] ⟨(.slice (some ⟨b7, 0, none⟩) 2 2), rfl⟩ [x, y])) rfl (simE_mk _ _ _) (Nat.zero_le _) ?_
 refine St.rets [_] [dat (isSim (.mk [] [simE x, simE y]) (simV (.mk [] ⟨(.slice (some ⟨b7, 0, none⟩) 2 2), rfl⟩ [x, y])))] Tryd.results26 ⟨⟨_, _, _, _, rfl, InB.mem, .inl ⟨⟨_, Tryd.underlying77⟩, sz77, rfl⟩⟩, trivial⟩ ?_ (fun _ hw => hw.sub)
 rfl
theorem con_spec (name : Str) (hn : slen name) (u : Value) (s : Sm0) : FnH Tryd.prog 32 #[sv name, u] ([isSim s u].map dat) (fun v H' => H' = [dat (isTerm (.mk 1 name 0 s []) v)]) := by
 refine FnH.body (args := [sv name, u]) 8 Tryd.func32 rfl Tryd.ntmps32 rfl (fun c => ?_)
 refine St.cast (H' := [dat (isSim s u)]) rfl ?_
 refine St.seq ?_
 refine St.isSim s u (fun x hx => ?_)
 obtain ⟨rfl, rfl, hxw⟩ := hx
 refine St.rg ?_
 refine St.boxA (.mk rfl) rfl (fun b3 => ?_)
 refine St.alloc zc80 rfl (fun b4 => ?_)
 refine St.nil (St.then_normal (St.seq (St.rg ?_)))
 refine St.mv ?_
 refine St.ev _ (Ev.ldbA (.mk rfl) Tryd.underlying77 trivial (by exact sz77)) rfl ?_
 refine St.ev _ (Ev.build (ps := [(0, (.const (.int .i64 1))), (1, (.tmp 5)), (3, (.tmp 6))]) (Opds.cons (Opd.mk rfl) (Opds.cons (Opd.mk rfl) (Opds.cons (Opd.mk rfl) Opds.nil))) (fun w => bld80_0_1_3 rfl rfl w)) rfl ?_
 refine St.storeA (Opd.mk rfl) (Opd.mk rfl) sz80 (by first | simp only [List.length_cons, List.length_nil] | rfl) (by simp only [List.all_cons, List.all_nil, Bool.and_true, Bool.and_eq_true]; exact ⟨rfl, rfl, rfl, rfl, x.av.2, rfl⟩) ?_
 refine St.nil (St.then_normal (St.rett ?_))
 refine St.slNil termR ?_
 refine St.dallNil termD ?_
 refine St.mkTerm 1 name 0 x (.slice none 0 0) rfl [] ?_
 refine St.toTerm (.mk 1 name 0 x nilV []) (s := .mk 1 name 0 (simE x) []) (termV (.mk 1 name 0 x nilV [])) rfl (termE_mk _ _ _ _ _ _) ⟨i64_1, hn, i64_0, hxw⟩ ?_
 refine St.rets [_] [dat (isTerm (.mk 1 name 0 (simE x) []) (termV (.mk 1 name 0 x nilV [])))] Tryd.results32 ⟨⟨_, _, _, _, rfl, InB.mem, .inl ⟨⟨_, Tryd.underlying80⟩, sz80, rfl⟩⟩, trivial⟩ ?_ (fun _ hw => hw.sub)
 rfl
theorem bound_spec (i : Int) (hi : i64ok i) : FnH Tryd.prog 35 #[iv i] ([].map dat) (fun v H' => H' = [dat (isTerm (.mk 2 [] i S0 []) v)]) := by
 refine FnH.body (args := [iv i]) 5 Tryd.func35 rfl Tryd.ntmps35 rfl (fun c => ?_)
 refine St.cast (H' := []) rfl ?_
 refine St.seq (St.rg ?_)
 refine St.alloc zc80 rfl (fun b2 => ?_)
 refine St.nil (St.then_normal (St.seq (St.rg ?_)))
 refine St.mv ?_
 refine St.ev _ (Ev.build (ps := [(0, (.const (.int .i64 2))), (2, (.tmp 3))]) (Opds.cons (Opd.mk rfl) (Opds.cons (Opd.mk rfl) Opds.nil)) (fun w => bld80_0_2 rfl rfl w)) rfl ?_
 refine St.storeA (Opd.mk rfl) (Opd.mk rfl) sz80 (by first | simp only [List.length_cons, List.length_nil] | rfl) rfl ?_
 refine St.nil (St.then_normal (St.rett ?_))
 refine St.slNil simR ?_
 refine St.dallNil simD ?_
 refine St.mkSim [] (.slice none 0 0) rfl [] ?_
 refine St.slNil termR ?_
 refine St.dallNil termD ?_
 refine St.mkTerm 2 [] i simN (.slice none 0 0) rfl [] ?_
 refine St.toTerm (.mk 2 [] i simN nilV []) (s := .mk 2 [] i S0 []) (termV (.mk 2 [] i simN nilV [])) rfl (by rw [termE_mk, simE_mk]; rfl) ⟨i64_2, Nat.zero_le _, hi, Nat.zero_le _⟩ ?_
 refine St.rets [_] [dat (isTerm (.mk 2 [] i S0 []) (termV (.mk 2 [] i simN nilV [])))] Tryd.results35 ⟨⟨_, _, _, _, rfl, InB.mem, .inl ⟨⟨_, Tryd.underlying80⟩, sz80, rfl⟩⟩, trivial⟩ ?_ (fun _ hw => hw.sub)
 rfl
theorem abs_spec (u1 u2 : Value) (s : Sm0) (t : Tm0) : FnH Tryd.prog 33 #[u1, u2] ([isSim s u1, isTerm t u2].map dat) (fun v H' => H' = [dat (isTerm (.mk 3 [] 0 s [t]) v)]) := by
 refine FnH.body (args := [u1, u2]) 9 Tryd.func33 rfl Tryd.ntmps33 rfl (fun c => ?_)
 refine St.cast (H' := [dat (isSim s u1), dat (isTerm t u2)]) rfl ?_
 refine St.seq ?_
 refine St.isSim s u1 (fun x hx => ?_)
 obtain ⟨rfl, rfl, hxw⟩ := hx
 refine St.isTerm t u2 (fun y hy => ?_)
 obtain ⟨rfl, rfl, hyw⟩ := hy
 refine St.rg ?_
 refine St.boxA (.mk rfl) rfl (fun b2 => ?_)
 refine St.boxA (.mk rfl) rfl (fun b3 => ?_)
 refine St.alloc zc80 rfl (fun b4 => ?_)
 refine St.nil (St.then_normal (St.seq (St.rg ?_)))
 refine St.ev _ (Ev.ldbA (.mk rfl) Tryd.underlying77 trivial (by exact sz77)) rfl ?_
 refine St.ev _ (Ev.ldbA (.mk rfl) Tryd.underlying80 trivial (by exact sz80)) rfl ?_
 refine St.bsl rfl (.cons (.mk rfl) .nil) Tryd.underlying78 sz80 zv80 rfl rfl (by simp [Value.cells]) rfl rfl (fun b7 => ?_)
 refine St.publish (.slice (some ⟨b7, 0, none⟩) 1 1) termR [y] rfl rfl (one_of hyw) ?_
 refine St.dallNil termD ?_
 refine St.dallCons termD (xs := []) (x := y) ?_
 refine St.mkTerm 3 [] 0 x (.slice (some ⟨b7, 0, none⟩) 1 1) rfl [y] ?_
 refine St.ev _ (Ev.build (ps := [(0, (.const (.int .i64 3))), (3, (.tmp 5)), (4, (.tmp 7))]) (Opds.cons (Opd.mk rfl) (Opds.cons (Opd.mk rfl) (Opds.cons (Opd.mk rfl) Opds.nil))) (fun w => bld80_0_3_4 rfl rfl w)) rfl ?_
 refine St.storeA (Opd.mk rfl) (Opd.mk rfl) sz80 (by first | simp only [List.length_cons, List.length_nil] | rfl) (by simp only [List.all_cons, List.all_nil, Bool.and_true, Bool.and_eq_true]; exact ⟨rfl, rfl, rfl, rfl, x.av.2, rfl⟩) ?_
 refine St.nil (St.then_normal (St.rett ?_))
 refine St.toTerm (.mk 3 [] 0 x ⟨(.slice (some ⟨b7, 0, none⟩) 1 1), rfl⟩ [y]) (s := .mk 3 [] 0 (simE x) [termE y]) (termV (.mk 3 [] 0 x ⟨(.slice (some ⟨b7, 0, none⟩) 1 1), rfl⟩ [y])) rfl (termE_mk _ _ _ _ _ _) ⟨i64_3, Nat.zero_le _, i64_0, hxw⟩ ?_
 refine St.rets [_] [dat (isTerm (.mk 3 [] 0 (simE x) [termE y]) (termV (.mk 3 [] 0 x ⟨(.slice (some ⟨b7, 0, none⟩) 1 1), rfl⟩ [y])))] Tryd.results33 ⟨⟨_, _, _, _, rfl, InB.mem, .inl ⟨⟨_, Tryd.underlying80⟩, sz80, rfl⟩⟩, trivial⟩ ?_ (fun _ hw => hw.sub)
 rfl
theorem app_spec (u1 u2 : Value) (t1 t2 : Tm0) : FnH Tryd.prog 34 #[u1, u2] ([isTerm t1 u1, isTerm t2 u2].map dat) (fun v H' => H' = [dat (isTerm (.mk 4 [] 0 S0 [t1, t2]) v)]) := by
 refine FnH.body (args := [u1, u2]) 9 Tryd.func34 rfl Tryd.ntmps34 rfl (fun c => ?_)
 refine St.cast (H' := [dat (isTerm t1 u1), dat (isTerm t2 u2)]) rfl ?_
 refine St.seq ?_
 refine St.isTerm t1 u1 (fun x hx => ?_)
 obtain ⟨rfl, rfl, hxw⟩ := hx
 refine St.isTerm t2 u2 (fun y hy => ?_)
 obtain ⟨rfl, rfl, hyw⟩ := hy
 refine St.rg ?_
 refine St.boxA (.mk rfl) rfl (fun b2 => ?_)
 refine St.boxA (.mk rfl) rfl (fun b3 => ?_)
 refine St.alloc zc80 rfl (fun b4 => ?_)
 refine St.nil (St.then_normal (St.seq (St.rg ?_)))
 refine St.ev _ (Ev.ldbA (.mk rfl) Tryd.underlying80 trivial (by exact sz80)) rfl ?_
 refine St.ev _ (Ev.ldbA (.mk rfl) Tryd.underlying80 trivial (by exact sz80)) rfl ?_
 refine St.bsl rfl (.cons (.mk rfl) (.cons (.mk rfl) .nil)) Tryd.underlying78 sz80 zv80 rfl rfl (by simp [Value.cells]) rfl rfl (fun b7 => ?_)
 refine St.publish (.slice (some ⟨b7, 0, none⟩) 2 2) termR [x, y] rfl rfl (two_of hxw hyw) ?_
 refine St.slNil simR ?_
 refine St.dallNil simD ?_
 refine St.mkSim [] (.slice none 0 0) rfl [] ?_
 refine St.dallNil termD ?_
 refine St.dallCons termD (xs := []) (x := y) ?_
 refine St.dallCons termD (xs := [y]) (x := x) ?_
 refine St.mkTerm 4 [] 0 simN (.slice (some ⟨b7, 0, none⟩) 2 2) rfl [x, y] ?_
 refine St.ev _ (Ev.build (ps := [(0, (.const (.int .i64 4))), (4, (.tmp 7))]) (Opds.cons (Opd.mk rfl) (Opds.cons (Opd.mk rfl) Opds.nil)) (fun w => bld80_0_4 rfl rfl w)) rfl ?_
 refine St.storeA (Opd.mk rfl) (Opd.mk rfl) sz80 (by first | simp only [List.length_cons, List.length_nil] | rfl) rfl ?_
 refine St.nil (St.then_normal (St.rett ?_))
 refine St.toTerm (.mk 4 [] 0 simN ⟨(.slice (some ⟨b7, 0, none⟩) 2 2), rfl⟩ [x, y]) (s := .mk 4 [] 0 S0 [termE x, termE y]) (termV (.mk 4 [] 0 simN ⟨(.slice (some ⟨b7, 0, none⟩) 2 2), rfl⟩ [x, y])) rfl (by rw [termE_mk, simE_mk]; rfl) ⟨i64_4, Nat.zero_le _, i64_0, Nat.zero_le _⟩ ?_
 refine St.rets [_] [dat (isTerm (.mk 4 [] 0 S0 [termE x, termE y]) (termV (.mk 4 [] 0 simN ⟨(.slice (some ⟨b7, 0, none⟩) 2 2), rfl⟩ [x, y])))] Tryd.results34 ⟨⟨_, _, _, _, rfl, InB.mem, .inl ⟨⟨_, Tryd.underlying80⟩, sz80, rfl⟩⟩, trivial⟩ ?_ (fun _ hw => hw.sub)
 rfl
end Go.Proofs.YtolmidffiegkaaaDoor

/-
  (YtolmidffiegkaaaDoorTermP)
  Types and terms: their checks by recursion and by a stack; the type of a term by recursion and by a table of its nodes.
  Conditions: none.
-/
namespace Go.Proofs.YtolmidffiegkaaaDoor
open Go Go.J
mutual
def szS : Sm0 → Nat
 | .mk _ l => szSL l + 1
def szSL : List Sm0 → Nat
 | [] => 0
 | x :: l => szS x + szSL l
end
mutual
def szT : Tm0 → Nat
 | .mk _ _ _ _ l => szTL l + 1
def szTL : List Tm0 → Nat
 | [] => 0
 | x :: l => szT x + szTL l
end
theorem simW_eq (x : Sm0) (d n : Nat) : simW x d n = if 200 < n + 1 ∨ 40 < d then (n + 1, 1) else if simShape x.base x.args.length = false then (n + 1, 5) else simWL x.args (d + 1) (n + 1) := by cases x; rw [simW]; rfl
def tmHere (x : Tm0) (b : Nat) : Int := tmOne x.kind x.name x.index x.type x.args.length b
theorem tmW_eq (x : Tm0) (d b n : Nat) : tmW x d b n = if 200 < n + 1 ∨ 40 < d then (n + 1, 1, (n : Int)) else if tmHere x b ≠ 0 then (n + 1, tmHere x b, (n : Int)) else tmWL x.args (d + 1) (if x.kind = 3 then b + 1 else b) (n + 1) := by cases x; rw [tmW]; rfl
theorem tmW_code : ∀ (x : Tm0) (d b n : Nat), (tmW x d b n).2.1 = 0 → (tmW x d b n).2 = (0, 0) := by
 intro x
 refine Tm0.rec (motive_1 := fun x => ∀ d b n, (tmW x d b n).2.1 = 0 → (tmW x d b n).2 = (0, 0)) (motive_2 := fun l => ∀ d b n, (tmWL l d b n).2.1 = 0 → (tmWL l d b n).2 = (0, 0)) ?_ ?_ ?_ x
 ·intro k s i t l ih d b n h
  rw [tmW] at h ⊢
  split
  ·rename_i h1; rw [if_pos h1] at h; exact absurd h (by simp)
  ·rename_i h1
   rw [if_neg h1] at h
   split
   ·rename_i h2; rw [if_pos h2] at h; exact absurd h h2
   ·rename_i h2; rw [if_neg h2] at h; exact ih _ _ _ h
 ·intro d b n _; rfl
 ·intro x l ihx ihl d b n h
  rw [tmWL] at h ⊢
  split
  ·rename_i h1; rw [if_pos h1] at h; exact absurd h h1
  ·rename_i h1; rw [if_neg h1] at h; exact ihl _ _ _ h
theorem tmW_ok : ∀ (x : Tm0) (d b n : Nat), (tmW x d b n).2.1 = 0 → (tmW x d b n).1 ≤ 200 ∧ (tmW x d b n).1 = n + szT x := by
 intro x
 refine Tm0.rec (motive_1 := fun x => ∀ d b n, (tmW x d b n).2.1 = 0 → (tmW x d b n).1 ≤ 200 ∧ (tmW x d b n).1 = n + szT x) (motive_2 := fun l => ∀ d b n, (tmWL l d b n).2.1 = 0 → (n ≤ 200 → (tmWL l d b n).1 ≤ 200) ∧ (tmWL l d b n).1 = n + szTL l) ?_ ?_ ?_ x
 ·intro k s i t l ih d b n h
  rw [tmW] at h ⊢
  by_cases h1 : 200 < n + 1 ∨ 40 < d
  ·rw [if_pos h1] at h; exact absurd h (by simp)
  rw [if_neg h1] at h ⊢
  by_cases h2 : tmOne k s i t l.length b ≠ 0
  ·rw [if_pos h2] at h; exact absurd h h2
  rw [if_neg h2] at h ⊢
  obtain ⟨k1, k2⟩ := ih _ _ _ h
  exact ⟨k1 (by omega), by rw [k2, szT]; omega⟩
 ·intro d b n _; exact ⟨fun h => h, rfl⟩
 ·intro x l ihx ihl d b n h
  rw [tmWL] at h ⊢
  by_cases h1 : (tmW x d b n).2.1 ≠ 0
  ·rw [if_pos h1] at h; exact absurd h h1
  rw [if_neg h1] at h ⊢
  obtain ⟨a1, a2⟩ := ihx d b n (Decidable.not_not.1 h1)
  obtain ⟨b1, b2⟩ := ihl _ _ _ h
  exact ⟨fun _ => b1 a1, by rw [b2, a2, szTL]; omega⟩
theorem tmW_le : ∀ (x : Tm0) (d b n : Nat), n ≤ 200 → (tmW x d b n).1 ≤ 201 := by
 intro x
 refine Tm0.rec (motive_1 := fun x => ∀ d b n, n ≤ 200 → (tmW x d b n).1 ≤ 201) (motive_2 := fun l => ∀ d b n, n ≤ 200 → (tmWL l d b n).1 ≤ 201) ?_ ?_ ?_ x
 ·intro k s i t l ih d b n hn
  rw [tmW]
  split
  ·show n + 1 ≤ 201; omega
  ·split
   ·show n + 1 ≤ 201; omega
   ·exact ih _ _ _ (by omega)
 ·intro d b n h; show n ≤ 201; omega
 ·intro x l ihx ihl d b n h
  rw [tmWL]
  split
  ·exact ihx d b n h
  ·rename_i h1
   exact ihl _ _ _ (tmW_ok x d b n (Decidable.not_not.1 h1)).1
inductive TmG : Tm0 → Nat → Nat → Prop
 | mk {x : Tm0} {d b : Nat} (hd : d ≤ 40) (h : tmHere x b = 0) (k : ∀ y ∈ x.args, TmG y (d + 1) (if x.kind = 3 then b + 1 else b)) : TmG x d b
theorem tmW_good : ∀ (x : Tm0) (d b n : Nat), (tmW x d b n).2.1 = 0 → TmG x d b := by
 intro x
 refine Tm0.rec (motive_1 := fun x => ∀ d b n, (tmW x d b n).2.1 = 0 → TmG x d b) (motive_2 := fun l => ∀ d b n, (tmWL l d b n).2.1 = 0 → ∀ y ∈ l, TmG y d b) ?_ ?_ ?_ x
 ·intro k s i t l ih d b n h
  rw [tmW] at h
  by_cases h1 : 200 < n + 1 ∨ 40 < d
  ·rw [if_pos h1] at h; exact absurd h (by simp)
  rw [if_neg h1] at h
  by_cases h2 : tmOne k s i t l.length b ≠ 0
  ·rw [if_pos h2] at h; exact absurd h h2
  rw [if_neg h2] at h
  exact .mk (by omega) (Decidable.not_not.1 h2) (ih _ _ _ h)
 ·intro d b n _ y hy; cases hy
 ·intro x l ihx ihl d b n h y hy
  rw [tmWL] at h
  by_cases h1 : (tmW x d b n).2.1 ≠ 0
  ·rw [if_pos h1] at h; exact absurd h h1
  rw [if_neg h1] at h
  rcases List.mem_cons.1 hy with rfl | hy
  ·exact ihx _ _ _ (Decidable.not_not.1 h1)
  ·exact ihl _ _ _ h y hy
theorem TmG.inv {x : Tm0} {d b : Nat} (h : TmG x d b) : d ≤ 40 ∧ tmHere x b = 0 ∧ ∀ y ∈ x.args, TmG y (d + 1) (if x.kind = 3 then b + 1 else b) := by
 cases h with
 | mk a b c => exact ⟨a, b, c⟩
theorem tmOne_inv {k : Int} {nm : Str} {ix : Int} {tp : Sm0} {m b : Nat} (h : tmOne k nm ix tp m b = 0) :
  (k = 1 ∧ simF tp = 0 ∧ m = 0) ∨ (k = 2 ∧ 0 ≤ ix ∧ ix < b ∧ m = 0) ∨ (k = 3 ∧ m = 1 ∧ simF tp = 0) ∨ (k = 4 ∧ m = 2) := by
 unfold tmOne at h
 by_cases h1 : k = 1
 ·rw [if_pos h1] at h
  by_cases c : ix ≠ 0 ∨ m ≠ 0
  ·rw [if_pos c] at h; cases h
  rw [if_neg c] at h
  by_cases c2 : isName nm = false
  ·rw [if_pos c2] at h; cases h
  rw [if_neg c2] at h
  by_cases c3 : simF tp ≠ 0
  ·rw [if_pos c3] at h; cases h
  exact .inl ⟨h1, Decidable.not_not.1 c3, by omega⟩
 rw [if_neg h1] at h
 by_cases h2 : k = 2
 ·rw [if_pos h2] at h
  by_cases c : nm ≠ [] ∨ noneS tp = false ∨ m ≠ 0
  ·rw [if_pos c] at h; cases h
  rw [if_neg c] at h
  by_cases c2 : ix < 0 ∨ (b : Int) ≤ ix
  ·rw [if_pos c2] at h; cases h
  exact .inr (.inl ⟨h2, by omega, by omega, Decidable.not_not.1 fun hm => c (.inr (.inr hm))⟩)
 rw [if_neg h2] at h
 by_cases h3 : k = 3
 ·rw [if_pos h3] at h
  by_cases c : nm ≠ [] ∨ ix ≠ 0 ∨ m ≠ 1
  ·rw [if_pos c] at h; cases h
  rw [if_neg c] at h
  by_cases c3 : simF tp ≠ 0
  ·rw [if_pos c3] at h; cases h
  exact .inr (.inr (.inl ⟨h3, Decidable.not_not.1 fun hm => c (.inr (.inr hm)), Decidable.not_not.1 c3⟩))
 rw [if_neg h3] at h
 by_cases h4 : k = 4
 ·rw [if_pos h4] at h
  by_cases c : nm ≠ [] ∨ ix ≠ 0 ∨ noneS tp = false ∨ m ≠ 2
  ·rw [if_pos c] at h; cases h
  exact .inr (.inr (.inr ⟨h4, Decidable.not_not.1 fun hm => c (.inr (.inr (.inr hm)))⟩))
 rw [if_neg h4] at h; cases h
theorem typT_eq (x : Tm0) (c : List Sm0) : typT x c = if x.kind = 1 then some x.type else if x.kind = 2 then c[c.length - 1 - x.index.toNat]? else if x.kind = 3 then (typHead x.args (c ++ [x.type])).map fun b => .mk [] [x.type, b] else appT (typHead x.args c) (typSnd x.args c) := by
 cases x; rw [typT]; rfl
theorem typHead_cons (x : Tm0) (l : List Tm0) (c : List Sm0) : typHead (x :: l) c = typT x c := by rw [typHead]
theorem typSnd_cons (x y : Tm0) (l : List Tm0) (c : List Sm0) : typSnd (x :: y :: l) c = typT y c := by rw [typSnd, typHead]
theorem appT_none (a b : Option Sm0) (h : ∀ s l x, a = some s → s.args = l → b = some x → ¬ ∃ p q, l = [p, q] ∧ sameS p x = true) : appT a b = none := by
 unfold appT
 split
 ·rename_i _ p q x
  split
  ·rename_i hs; exact absurd ⟨p, q, rfl, hs⟩ (h _ _ _ rfl rfl rfl)
  ·rfl
 ·rfl
theorem appT_some {s p q x : Sm0} (hl : s.args = [p, q]) (h : sameS p x = true) : appT (some s) (some x) = some q := by
 cases s with
 | mk b l =>
  cases (show l = [p, q] from hl)
  show (if sameS p x then some q else none) = some q
  rw [if_pos h]
theorem tmWL_one (x : Tm0) (d b n : Nat) : tmWL [x] d b n = tmW x d b n := by
 rw [tmWL, tmWL]
 split
 ·rfl
 ·rename_i h
  have := tmW_code x d b n (Decidable.not_not.1 h)
  rw [← this]
theorem tmWL_two (x y : Tm0) (d b n : Nat) : tmWL [x, y] d b n = if (tmW x d b n).2.1 ≠ 0 then tmW x d b n else tmW y d b (tmW x d b n).1 := by rw [tmWL, tmWL_one]
inductive SmOK : Sm0 → Prop
 | leaf {b : Str} (h : b = sE ∨ b = sT) : SmOK (.mk b [])
 | fn {x y : Sm0} (hx : SmOK x) (hy : SmOK y) : SmOK (.mk [] [x, y])
theorem simShape_cases {b : Str} {l : List Sm0} (h : simShape b l.length = true) : ((b = sE ∨ b = sT) ∧ l = []) ∨ (b = [] ∧ ∃ x y, l = [x, y]) := by
 unfold simShape at h
 simp only [Bool.or_eq_true, Bool.and_eq_true, decide_eq_true_eq] at h
 rcases h with ⟨h1, h2⟩ | ⟨h1, h2⟩
 ·exact .inl ⟨h1, List.eq_nil_of_length_eq_zero h2⟩
 ·refine .inr ⟨h1, ?_⟩
  match l, h2 with
  | [x, y], _ => exact ⟨x, y, rfl⟩
theorem simW_ok : ∀ (x : Sm0) (d n : Nat), (simW x d n).2 = 0 → SmOK x ∧ (simW x d n).1 = n + szS x ∧ (simW x d n).1 ≤ 200 := by
 intro x
 refine Sm0.rec (motive_1 := fun x => ∀ d n, (simW x d n).2 = 0 → SmOK x ∧ (simW x d n).1 = n + szS x ∧ (simW x d n).1 ≤ 200) (motive_2 := fun l => ∀ d n, (simWL l d n).2 = 0 → (∀ x ∈ l, SmOK x) ∧ (simWL l d n).1 = n + szSL l ∧ (n ≤ 200 → (simWL l d n).1 ≤ 200)) ?_ ?_ ?_ x
 ·intro b l ih d n h
  rw [simW] at h ⊢
  by_cases h1 : 200 < n + 1 ∨ 40 < d
  ·rw [if_pos h1] at h; exact absurd h (by simp)
  rw [if_neg h1] at h ⊢
  by_cases h2 : simShape b l.length = false
  ·rw [if_pos h2] at h; exact absurd h (by simp)
  rw [if_neg h2] at h ⊢
  obtain ⟨k1, k2, k3⟩ := ih _ _ h
  refine ⟨?_, by rw [k2, szS]; omega, k3 (by omega)⟩
  rcases simShape_cases (by simpa using h2) with ⟨hb, rfl⟩ | ⟨rfl, x, y, rfl⟩
  ·exact .leaf hb
  ·exact .fn (k1 x (by simp)) (k1 y (by simp))
 ·intro d n _; exact ⟨fun x hx => (by cases hx), rfl, fun h => h⟩
 ·intro x l ihx ihl d n h
  rw [simWL] at h ⊢
  by_cases h1 : (simW x d n).2 ≠ 0
  ·rw [if_pos h1] at h; exact absurd h h1
  rw [if_neg h1] at h ⊢
  obtain ⟨a1, a2, a3⟩ := ihx d n (Decidable.not_not.1 h1)
  obtain ⟨b1, b2, b3⟩ := ihl _ _ h
  refine ⟨fun y hy => ?_, by rw [b2, a2, szSL]; omega, fun _ => b3 a3⟩
  rcases List.mem_cons.1 hy with rfl | hy
  ·exact a1
  ·exact b1 y hy
end Go.Proofs.YtolmidffiegkaaaDoor

/-
  (YtolmidffiegkaaaDoorOrdP)
  Orders by precedence rules: what the code and the reference compute, as plain functions on lists.
  Conditions: none.
-/
namespace Go.J
open Go
end Go.J

/-
  (YtolmidffiegkaaaDoorQ7)
  The walks of the checks of names and types.
  Conditions: the lengths of texts are lengths.
-/
set_option maxRecDepth 20000
set_option linter.unusedSimpArgs false
set_option linter.unusedVariables false
namespace Go.Proofs.YtolmidffiegkaaaDoor
open Go Go.J
theorem simW_le : ∀ (x : Sm0) (d n : Nat), n ≤ 200 → (simW x d n).1 ≤ 201 := by
 intro x
 refine Sm0.rec (motive_1 := fun x => ∀ d n, n ≤ 200 → (simW x d n).1 ≤ 201) (motive_2 := fun l => ∀ d n, n ≤ 200 → (simWL l d n).1 ≤ 201) ?_ ?_ ?_ x
 ·intro b l ih d n hn
  rw [simW]
  split
  ·show n + 1 ≤ 201; omega
  ·split
   ·show n + 1 ≤ 201; omega
   ·exact ih _ _ (by omega)
 ·intro d n h; show n ≤ 201; omega
 ·intro x l ihx ihl d n h
  rw [simWL]
  split
  ·exact ihx d n h
  ·rename_i h1
   exact ihl _ _ (simW_ok x d n (Decidable.not_not.1 h1)).2.2
theorem simWL_drop {l : List Sm0} {k : Nat} {y : Sm0} (h : l[k]? = some y) (d n : Nat) : simWL (l.drop k) d n = if (simW y d n).2 ≠ 0 then simW y d n else simWL (l.drop (k + 1)) d (simW y d n).1 := by rw [drop_of_some h, simWL]
theorem simWL_end {l : List Sm0} {k : Nat} (h : l.length ≤ k) (d n : Nat) : simWL (l.drop k) d n = (n, 0) := by rw [List.drop_of_length_le h, simWL]
theorem simShape_le {b : Str} {m : Nat} (h : simShape b m = true) : m ≤ 2 := by
 unfold simShape at h
 simp only [Bool.or_eq_true, Bool.and_eq_true, decide_eq_true_eq] at h
 rcases h with ⟨_, h⟩ | ⟨_, h⟩ <;> omega
theorem shape_eq (b : Str) (m : Nat) : (((b == ([101] : Str)) || (b == ([116] : Str))) && decide ((m : Int) = 0) || ((b == ([] : Str)) && decide ((m : Int) = 2))) = simShape b m := by
 unfold simShape
 rw [Bool.eq_iff_iff]
 simp only [Bool.or_eq_true, Bool.and_eq_true, beq_iff_eq, decide_eq_true_eq]
 constructor
 ·rintro (⟨h, k⟩ | ⟨h, k⟩)
  ·exact .inl ⟨h, by omega⟩
  ·exact .inr ⟨h, by omega⟩
 ·rintro (⟨h, k⟩ | ⟨h, k⟩)
  ·exact .inl ⟨h, by omega⟩
  ·exact .inr ⟨h, by omega⟩
theorem Name_spec (s : Str) (hs : s.length ≤ 9223372036854775807) : FnV Tryd.prog 40 #[sv s] [] (.bool (isName s)) := by
 refine FnV.body0 (args := [sv s]) 55 Tryd.func40 rfl Tryd.ntmps40 rfl (fun c => ?_)
 refine St.seq (St.rg ?_)
 refine St.asg ?_
 refine St.nil (St.then_normal (St.seq (St.seq (St.rg ?_))))
 refine St.mv ?_
 refine St.ev _ (Ev.lenstr (.mk rfl) Tryd.underlying9) rfl ?_
 refine St.ev _ (Ev.eql (.mk rfl) (.mk rfl)) rfl ?_
 refine St.mv ?_
 refine St.gf _ rfl rfl (fun hg => Ev.move (.mk rfl)) rfl ?_
 refine St.gf _ rfl rfl (fun hg => Ev.lenstr (Opd.gv rfl hg) Tryd.underlying9) rfl ?_
 refine St.gf _ rfl rfl (fun hg => Ev.gtr (Opd.gv rfl hg) (.mk rfl)) rfl ?_
 refine St.ev _ (Ev.or (.mk rfl) (fun hp => Opd.gv rfl hp)) rfl ?_
 refine St.mv ?_
 refine St.gf _ rfl rfl (fun hg => Ev.move (.mk rfl)) rfl ?_
 refine St.gf _ rfl rfl (fun hg => Ev.idxstr0 (k := 0) (Opd.gv rfl hg) (.mk rfl) Tryd.underlying9 rfl (by first | omega | (simp only [jbAll] at hg; omega))) rfl ?_
 refine St.gf _ rfl rfl (fun hg => Ev.lss (Opd.gv rfl hg) (.mk rfl)) rfl ?_
 refine St.ev _ (Ev.or (.mk rfl) (fun hp => Opd.gv rfl hp)) rfl ?_
 refine St.mv ?_
 refine St.gf _ rfl rfl (fun hg => Ev.move (.mk rfl)) rfl ?_
 refine St.gf _ rfl rfl (fun hg => Ev.idxstr0 (k := 0) (Opd.gv rfl hg) (.mk rfl) Tryd.underlying9 rfl (by first | omega | (simp only [jbAll] at hg; omega))) rfl ?_
 refine St.gf _ rfl rfl (fun hg => Ev.gtr (Opd.gv rfl hg) (.mk rfl)) rfl ?_
 refine St.ev _ (Ev.or (.mk rfl) (fun hp => Opd.gv rfl hp)) rfl ?_
 refine St.nil (St.then_normal ?_)
 refine St.cond _ rfl (fun h22 => ?_) (fun h22 => ?_)
 ·skip
  try simp only [jbAll] at h22
  refine St.seq (St.rg ?_)
  refine St.asg ?_
  refine St.nil (St.then_normal (St.rett (St.then_ret ?_)))
  refine St.rets [_] [] Tryd.results40 ⟨rfl, trivial⟩ ?_ (fun _ hw => hw.sub)
  exact be (isName_bad1 (by omega)).symm
 ·skip
  try simp only [jbAll] at h22
  refine St.skip (St.then_normal (St.seq (St.seq (St.rg ?_))))
  refine St.mv ?_
  refine St.ev _ (Ev.lenstr (.mk rfl) Tryd.underlying9) rfl ?_
  refine St.mv ?_
  refine St.nil (St.then_normal (St.block ?_))
  refine St.loopS (ι := Nat) (fun k T => (25, iv k) :: T) (fun k => k ≤ s.length ∧ (s.take k).all nameRest = true) (fun k => s.length - k) 0 (Keep.cons 0 rfl (Keep.cons 24 rfl Keep.nil)) ⟨Nat.zero_le _, rfl⟩ (by repeat (first | exact Sub.nil | refine Sub.cons (by first | rfl | exact congrArg (fun z => some (iv z)) (by first | omega | (dsimp only; omega)) | exact congrArg (fun z => some (Value.bool z)) (by first | assumption | exact Eq.symm (by assumption))) ?_)) ?_
  intro k hphi
  obtain ⟨hk, hall⟩ := hphi
  refine St.seq (St.rg ?_)
  refine St.ev _ (Ev.lss (.mk rfl) (.mk rfl)) rfl ?_
  refine St.nil (St.then_normal (St.seq ?_))
  refine St.cond _ rfl (fun h26 => ?_) (fun h26 => ?_)
  ·skip
   try simp only [jbAll] at h26
   refine St.skip (St.then_normal (St.seq (St.block (St.seq (St.rg ?_)))))
   refine St.mv ?_
   refine St.asg ?_
   refine St.nil (St.then_normal (St.seq (St.rg ?_)))
   refine St.mv ?_
   refine St.mv ?_
   refine St.ev _ (Ev.idxstr0  (.mk rfl) (.mk rfl) Tryd.underlying9 rfl (by omega)) rfl ?_
   refine St.asg ?_
   refine St.nil (St.then_normal (St.seq (St.rg ?_)))
   refine St.mv ?_
   refine St.ev _ (Ev.geq (.mk rfl) (.mk rfl)) rfl ?_
   refine St.mv ?_
   refine St.gt _ rfl rfl (fun hg => Ev.move (.mk rfl)) rfl ?_
   refine St.gt _ rfl rfl (fun hg => Ev.leq (Opd.gv rfl hg) (.mk rfl)) rfl ?_
   refine St.ev _ (Ev.and (.mk rfl) (fun hp => Opd.gv rfl hp)) rfl ?_
   refine St.mv ?_
   refine St.gf _ rfl rfl (fun hg => Ev.move (.mk rfl)) rfl ?_
   refine St.gf _ rfl rfl (fun hg => Ev.geq (Opd.gv rfl hg) (.mk rfl)) rfl ?_
   refine St.gf _ rfl rfl (fun hg => Ev.move (Opd.gv rfl hg)) rfl ?_
   refine St.gct _ rfl rfl (fun hg => Ev.move (.mk rfl)) rfl ?_
   refine St.gct _ rfl rfl (fun hg => Ev.leq (Opd.gv rfl hg) (.mk rfl)) rfl ?_
   refine St.gf _ rfl rfl (fun hg => Ev.and (Opd.gv rfl hg) (fun hp => Opd.gv rfl (and_i hg hp))) rfl ?_
   refine St.ev _ (Ev.or (.mk rfl) (fun hp => Opd.gv rfl hp)) rfl ?_
   refine St.mv ?_
   refine St.gf _ rfl rfl (fun hg => Ev.move (.mk rfl)) rfl ?_
   refine St.gf _ rfl rfl (fun hg => Ev.eql (Opd.gv rfl hg) (.mk rfl)) rfl ?_
   refine St.ev _ (Ev.or (.mk rfl) (fun hp => Opd.gv rfl hp)) rfl ?_
   refine St.mv ?_
   refine St.gf _ rfl rfl (fun hg => Ev.move (.mk rfl)) rfl ?_
   refine St.gf _ rfl rfl (fun hg => Ev.eql (Opd.gv rfl hg) (.mk rfl)) rfl ?_
   refine St.ev _ (Ev.or (.mk rfl) (fun hp => Opd.gv rfl hp)) rfl ?_
   refine St.ev _ (Ev.not (.mk rfl)) rfl ?_
   refine St.nil (St.then_normal ?_)
   refine St.cond _ rfl (fun h53 => ?_) (fun h53 => ?_)
   ·skip
    try simp only [jbAll] at h53
    refine St.seq (St.rg ?_)
    refine St.asg ?_
    refine St.nil (St.then_normal (St.rett (St.in_ret (St.then_ret (St.then_ret (St.in_ret (St.then_ret ?_)))))))
    refine St.rets [_] [] Tryd.results40 ⟨rfl, trivial⟩ ?_ (fun _ hw => hw.sub)
    exact be (isName_bad2 (k := k) (by omega) (by simp only [nameRest, low, digit, Bool.and_eq_false_iff, Bool.or_eq_false_iff, decide_eq_false_iff_not]; omega)).symm
   ·skip
    try simp only [jbAll] at h53
    refine St.skip (St.in_normal (St.then_normal (St.rg ?_)))
    refine St.ev _ (Ev.add (.mk rfl) (.mk rfl) (by omega)) rfl ?_
    refine St.mv ?_
    refine St.nil (St.then_normal ?_)
    refine St.againS (k + 1) ⟨by omega, all_take_succ (d := 0) hall (by simp only [nameRest, low, digit, Bool.and_eq_true, Bool.or_eq_true, decide_eq_true_eq]; exact h53)⟩ (by first | omega | (dsimp only; omega)) (by repeat (first | exact Sub.nil | refine Sub.cons (by first | rfl | exact congrArg (fun z => some (iv z)) (by first | omega | (dsimp only; omega)) | exact congrArg (fun z => some (Value.bool z)) (by first | assumption | exact Eq.symm (by assumption))) ?_)) (fun _ hw => hw.sub)
  ·skip
   try simp only [jbAll] at h26
   refine St.exit (St.then_exit (St.then_exit (St.in_hit (St.then_normal (St.seq (St.rg ?_))))))
   refine St.asg ?_
   refine St.nil (St.then_normal (St.rett ?_))
   refine St.rets [_] [] Tryd.results40 ⟨rfl, trivial⟩ ?_ (fun _ hw => hw.sub)
   exact be (isName_good (by omega) (by omega) (by simp only [low, Bool.and_eq_true, decide_eq_true_eq]; omega) (all_of_take hall (by omega))).symm
theorem queryFault_spec (a b : Int) : FnV Tryd.prog 21 #[iv a, iv b] [] (fv (a, b)) := by
 refine FnV.body0 (args := [iv a, iv b]) 8 Tryd.func21 rfl Tryd.ntmps21 rfl (fun c => ?_)
 refine St.seq (St.rg ?_)
 refine St.alloc zc42 rfl (fun b4 => ?_)
 refine St.nil (St.then_normal (St.seq (St.rg ?_)))
 refine St.mv ?_
 refine St.mv ?_
 refine St.ev _ (Ev.build (ps := [(0, (.tmp 5)), (1, (.tmp 6))]) (Opds.cons (Opd.mk rfl) (Opds.cons (Opd.mk rfl) Opds.nil)) (fun w => bld42_0_1 rfl rfl w)) rfl ?_
 refine St.storeA (Opd.mk rfl) (Opd.mk rfl) sz42 (by first | simp only [List.length_cons, List.length_nil] | rfl) rfl ?_
 refine St.nil (St.then_normal (St.rett ?_))
 refine St.rets [_] [] Tryd.results21 ⟨⟨_, _, _, _, rfl, InB.mem, .inl ⟨⟨_, Tryd.underlying42⟩, sz42, rfl⟩⟩, trivial⟩ ?_ (fun _ hw => hw.sub)
 rfl
theorem grammarFault_spec (a b : Int) : FnV Tryd.prog 38 #[iv a, iv b] [] (fv (a, b)) := by
 refine FnV.body0 (args := [iv a, iv b]) 8 Tryd.func38 rfl Tryd.ntmps38 rfl (fun c => ?_)
 refine St.seq (St.rg ?_)
 refine St.alloc zc42 rfl (fun b4 => ?_)
 refine St.nil (St.then_normal (St.seq (St.rg ?_)))
 refine St.mv ?_
 refine St.mv ?_
 refine St.ev _ (Ev.build (ps := [(0, (.tmp 5)), (1, (.tmp 6))]) (Opds.cons (Opd.mk rfl) (Opds.cons (Opd.mk rfl) Opds.nil)) (fun w => bld42_0_1 rfl rfl w)) rfl ?_
 refine St.storeA (Opd.mk rfl) (Opd.mk rfl) sz42 (by first | simp only [List.length_cons, List.length_nil] | rfl) rfl ?_
 refine St.nil (St.then_normal (St.rett ?_))
 refine St.rets [_] [] Tryd.results38 ⟨⟨_, _, _, _, rfl, InB.mem, .inl ⟨⟨_, Tryd.underlying42⟩, sz42, rfl⟩⟩, trivial⟩ ?_ (fun _ hw => hw.sub)
 rfl
theorem deriveFault_spec (a b : Int) : FnV Tryd.prog 46 #[iv a, iv b] [] (fv (a, b)) := by
 refine FnV.body0 (args := [iv a, iv b]) 8 Tryd.func46 rfl Tryd.ntmps46 rfl (fun c => ?_)
 refine St.seq (St.rg ?_)
 refine St.alloc zc42 rfl (fun b4 => ?_)
 refine St.nil (St.then_normal (St.seq (St.rg ?_)))
 refine St.mv ?_
 refine St.mv ?_
 refine St.ev _ (Ev.build (ps := [(0, (.tmp 5)), (1, (.tmp 6))]) (Opds.cons (Opd.mk rfl) (Opds.cons (Opd.mk rfl) Opds.nil)) (fun w => bld42_0_1 rfl rfl w)) rfl ?_
 refine St.storeA (Opd.mk rfl) (Opd.mk rfl) sz42 (by first | simp only [List.length_cons, List.length_nil] | rfl) rfl ?_
 refine St.nil (St.then_normal (St.rett ?_))
 refine St.rets [_] [] Tryd.results46 ⟨⟨_, _, _, _, rfl, InB.mem, .inl ⟨⟨_, Tryd.underlying42⟩, sz42, rfl⟩⟩, trivial⟩ ?_ (fun _ hw => hw.sub)
 rfl
theorem hierarchyFault_spec (a b : Int) : FnV Tryd.prog 51 #[iv a, iv b] [] (fv (a, b)) := by
 refine FnV.body0 (args := [iv a, iv b]) 8 Tryd.func51 rfl Tryd.ntmps51 rfl (fun c => ?_)
 refine St.seq (St.rg ?_)
 refine St.alloc zc42 rfl (fun b4 => ?_)
 refine St.nil (St.then_normal (St.seq (St.rg ?_)))
 refine St.mv ?_
 refine St.mv ?_
 refine St.ev _ (Ev.build (ps := [(0, (.tmp 5)), (1, (.tmp 6))]) (Opds.cons (Opd.mk rfl) (Opds.cons (Opd.mk rfl) Opds.nil)) (fun w => bld42_0_1 rfl rfl w)) rfl ?_
 refine St.storeA (Opd.mk rfl) (Opd.mk rfl) sz42 (by first | simp only [List.length_cons, List.length_nil] | rfl) rfl ?_
 refine St.nil (St.then_normal (St.rett ?_))
 refine St.rets [_] [] Tryd.results51 ⟨⟨_, _, _, _, rfl, InB.mem, .inl ⟨⟨_, Tryd.underlying42⟩, sz42, rfl⟩⟩, trivial⟩ ?_ (fun _ hw => hw.sub)
 rfl
theorem graphFault_spec (a b : Int) : FnV Tryd.prog 58 #[iv a, iv b] [] (fv (a, b)) := by
 refine FnV.body0 (args := [iv a, iv b]) 8 Tryd.func58 rfl Tryd.ntmps58 rfl (fun c => ?_)
 refine St.seq (St.rg ?_)
 refine St.alloc zc42 rfl (fun b4 => ?_)
 refine St.nil (St.then_normal (St.seq (St.rg ?_)))
 refine St.mv ?_
 refine St.mv ?_
 refine St.ev _ (Ev.build (ps := [(0, (.tmp 5)), (1, (.tmp 6))]) (Opds.cons (Opd.mk rfl) (Opds.cons (Opd.mk rfl) Opds.nil)) (fun w => bld42_0_1 rfl rfl w)) rfl ?_
 refine St.storeA (Opd.mk rfl) (Opd.mk rfl) sz42 (by first | simp only [List.length_cons, List.length_nil] | rfl) rfl ?_
 refine St.nil (St.then_normal (St.rett ?_))
 refine St.rets [_] [] Tryd.results58 ⟨⟨_, _, _, _, rfl, InB.mem, .inl ⟨⟨_, Tryd.underlying42⟩, sz42, rfl⟩⟩, trivial⟩ ?_ (fun _ hw => hw.sub)
 rfl
theorem none_spec (x : SimD) : FnV Tryd.prog 70 #[simV x] [simD x] (.bool (noneS (simE x))) := by
 refine FnV.body1 (args := [simV x]) 12 Tryd.func70 rfl Tryd.ntmps70 rfl (fun c => ?_)
 refine St.seq (St.rg ?_)
 refine St.boxA (.mk rfl) rfl (fun b1 => ?_)
 refine St.asg ?_
 refine St.nil (St.then_normal (St.seq ?_))
 refine St.openSim x ?_
 refine St.rg ?_
 refine St.ev _ (Ev.fldb0 (.mk rfl) fo77_0) rfl ?_
 refine St.ev _ (Ev.ldb (.mk rfl) Tryd.underlying9 trivial (by rfl)) rfl ?_
 refine St.ev _ (Ev.streq (.mk rfl) (.mk rfl)) rfl ?_
 refine St.mv ?_
 refine St.gt _ rfl rfl (fun hg => Ev.fldb0 (.mk rfl) fo77_1) rfl ?_
 refine St.gt _ rfl rfl (fun hg => Ev.ldb (Opd.gv rfl hg) Tryd.underlying75 trivial (by rfl)) rfl ?_
 refine St.gt _ rfl rfl (fun hg => Ev.lensl (Opd.gv rfl hg) Tryd.underlying75) rfl ?_
 refine St.gt _ rfl rfl (fun hg => Ev.eql (Opd.gv rfl hg) (.mk rfl)) rfl ?_
 refine St.ev _ (Ev.and (.mk rfl) (fun hp => Opd.gv rfl hp)) rfl ?_
 refine St.asg ?_
 refine St.nil (St.then_normal (St.rett ?_))
 refine St.rets [_] [] Tryd.results70 ⟨rfl, trivial⟩ ?_ (fun _ hw => hw.sub)
 exact be (by rw [noneS, simE_base, simE_args, List.length_map, Bool.eq_iff_iff]; simp only [Bool.and_eq_true, beq_iff_eq, decide_eq_true_eq]; exact ⟨fun h => ⟨h.1, by have := h.2; omega⟩, fun h => ⟨h.1, by have := h.2; omega⟩⟩)
set_option maxHeartbeats 1000000 in
theorem simWalk_spec (bn bw tw : Nat) : ∀ (x : SimD) (d n : Nat), d ≤ 100 → n ≤ 200 → FnH Tryd.prog 80 ([simV x, iv (d : Nat)] ++ [Value.pointer (some ⟨bn, 0, none⟩), Value.pointer (some ⟨bw, 0, none⟩)]).toArray [dat (simD x), blk bn (.cells [iv (n : Nat)].toArray 3 (0, 0)), blk bw (.cells [(.func (.func 80) #[] [Value.pointer (some ⟨bn, 0, none⟩), Value.pointer (some ⟨bw, 0, none⟩)].toArray)].toArray tw (0, 0))] (fun v H' => v = iv (simW (simE x) d n).2 ∧ H' = [blk bn (.cells [iv ((simW (simE x) d n).1 : Nat)].toArray 3 (0, 0)), blk bw (.cells [(.func (.func 80) #[] [Value.pointer (some ⟨bn, 0, none⟩), Value.pointer (some ⟨bw, 0, none⟩)].toArray)].toArray tw (0, 0))]) := by
 intro x
 induction x using SimD.ind
 rename_i x ih
 intro d n hd hn
 refine FnH.body (args := [simV x, iv (d : Nat)] ++ [Value.pointer (some ⟨bn, 0, none⟩), Value.pointer (some ⟨bw, 0, none⟩)]) 62 Tryd.func80 rfl Tryd.ntmps80 rfl (fun c => ?_)
 refine St.seq ?_
 have hsw := simW_eq (simE x) d n
 rw [simE_base, simE_args, List.length_map] at hsw
 refine St.openSim x ?_
 refine St.rg ?_
 refine St.boxA (.mk rfl) rfl (fun b4 => ?_)
 refine St.asg ?_
 refine St.nil (St.then_normal (St.seq (St.rg ?_)))
 refine St.ev _ (Ev.ldb (.mk rfl) Tryd.underlying3 trivial (by rfl)) rfl ?_
 refine St.ev _ (Ev.add (.mk rfl) (.mk rfl) (by omega)) rfl ?_
 refine St.store1 (.mk rfl) (.mk rfl) sz3 rfl (by rfl) ?_
 refine St.blkEq bn (L' := [iv ((n + 1 : Nat) : Int)]) rfl ?_
 refine St.nil (St.then_normal (St.seq (St.seq (St.rg ?_))))
 refine St.ev _ (Ev.ldb (.mk rfl) Tryd.underlying3 trivial (by rfl)) rfl ?_
 refine St.ev _ (Ev.gtr (.mk rfl) (.mk rfl)) rfl ?_
 refine St.mv ?_
 refine St.gf _ rfl rfl (fun hg => Ev.move (.mk rfl)) rfl ?_
 refine St.gf _ rfl rfl (fun hg => Ev.gtr (Opd.gv rfl hg) (.mk rfl)) rfl ?_
 refine St.ev _ (Ev.or (.mk rfl) (fun hp => Opd.gv rfl hp)) rfl ?_
 refine St.nil (St.then_normal ?_)
 refine St.cond _ rfl (fun h18 => ?_) (fun h18 => ?_)
 ·skip
  try simp only [jbAll] at h18
  rw [if_pos (by omega)] at hsw
  refine St.seq (St.rg ?_)
  refine St.asg ?_
  refine St.nil (St.then_normal (St.rett (St.then_ret ?_)))
  refine St.rets [_] [blk bn (.cells [iv ((n + 1) : Nat)].toArray 3 (0, 0)), blk bw (.cells [(.func (.func 80) #[] [Value.pointer (some ⟨bn, 0, none⟩), Value.pointer (some ⟨bw, 0, none⟩)].toArray)].toArray tw (0, 0))] Tryd.results80 ⟨rfl, trivial⟩ ?_ (fun _ hw => hw.sub)
  rw [hsw]; exact ⟨rfl, rfl⟩
 ·skip
  try simp only [jbAll] at h18
  rw [if_neg (by omega)] at hsw
  refine St.skip (St.then_normal (St.seq (St.rg ?_)))
  refine St.ev _ (Ev.fldb0 (.mk rfl) fo77_0) rfl ?_
  refine St.ev _ (Ev.ldb (.mk rfl) Tryd.underlying9 trivial (by rfl)) rfl ?_
  refine St.ev _ (Ev.streq (.mk rfl) (.mk rfl)) rfl ?_
  refine St.mv ?_
  refine St.gf _ rfl rfl (fun hg => Ev.fldb0 (.mk rfl) fo77_0) rfl ?_
  refine St.gf _ rfl rfl (fun hg => Ev.ldb (Opd.gv rfl hg) Tryd.underlying9 trivial (by rfl)) rfl ?_
  refine St.gf _ rfl rfl (fun hg => Ev.streq (Opd.gv rfl hg) (.mk rfl)) rfl ?_
  refine St.ev _ (Ev.or (.mk rfl) (fun hp => Opd.gv rfl hp)) rfl ?_
  refine St.asg ?_
  refine St.nil (St.then_normal (St.seq (St.seq (St.rg ?_))))
  refine St.mv ?_
  refine St.mv ?_
  refine St.gt _ rfl rfl (fun hg => Ev.fldb0 (.mk rfl) fo77_1) rfl ?_
  refine St.gt _ rfl rfl (fun hg => Ev.ldb (Opd.gv rfl hg) Tryd.underlying75 trivial (by rfl)) rfl ?_
  refine St.gt _ rfl rfl (fun hg => Ev.lensl (Opd.gv rfl hg) Tryd.underlying75) rfl ?_
  refine St.gt _ rfl rfl (fun hg => Ev.eql (Opd.gv rfl hg) (.mk rfl)) rfl ?_
  refine St.ev _ (Ev.and (.mk rfl) (fun hp => Opd.gv rfl hp)) rfl ?_
  refine St.mv ?_
  refine St.gf _ rfl rfl (fun hg => Ev.fldb0 (.mk rfl) fo77_0) rfl ?_
  refine St.gf _ rfl rfl (fun hg => Ev.ldb (Opd.gv rfl hg) Tryd.underlying9 trivial (by rfl)) rfl ?_
  refine St.gf _ rfl rfl (fun hg => Ev.streq (Opd.gv rfl hg) (.mk rfl)) rfl ?_
  refine St.gf _ rfl rfl (fun hg => Ev.move (Opd.gv rfl hg)) rfl ?_
  refine St.gct _ rfl rfl (fun hg => Ev.fldb0 (.mk rfl) fo77_1) rfl ?_
  refine St.gct _ rfl rfl (fun hg => Ev.ldb (Opd.gv rfl hg) Tryd.underlying75 trivial (by rfl)) rfl ?_
  refine St.gct _ rfl rfl (fun hg => Ev.lensl (Opd.gv rfl hg) Tryd.underlying75) rfl ?_
  refine St.gct _ rfl rfl (fun hg => Ev.eql (Opd.gv rfl hg) (.mk rfl)) rfl ?_
  refine St.gf _ rfl rfl (fun hg => Ev.and (Opd.gv rfl hg) (fun hp => Opd.gv rfl (and_i hg hp))) rfl ?_
  refine St.ev _ (Ev.or (.mk rfl) (fun hp => Opd.gv rfl hp)) rfl ?_
  refine St.ev _ (Ev.not (.mk rfl)) rfl ?_
  refine St.nil (St.then_normal ?_)
  refine St.cond _ rfl (fun h45 => ?_) (fun h45 => ?_)
  ·skip
   rw [shape_eq] at h45
   rw [if_pos (by simpa using h45)] at hsw
   refine St.seq (St.rg ?_)
   refine St.asg ?_
   refine St.nil (St.then_normal (St.rett (St.then_ret ?_)))
   refine St.rets [_] [blk bn (.cells [iv ((n + 1) : Nat)].toArray 3 (0, 0)), blk bw (.cells [(.func (.func 80) #[] [Value.pointer (some ⟨bn, 0, none⟩), Value.pointer (some ⟨bw, 0, none⟩)].toArray)].toArray tw (0, 0))] Tryd.results80 ⟨rfl, trivial⟩ ?_ (fun _ hw => hw.sub)
   rw [hsw]; exact ⟨rfl, rfl⟩
  ·skip
   rw [shape_eq] at h45
   have hl2 := simShape_le (show simShape x.base x.args.length = true by simpa using h45)
   rw [if_neg (by simpa using h45)] at hsw
   refine St.skip (St.then_normal (St.seq (St.seq (St.rg ?_))))
   refine St.ev _ (Ev.fldb0 (.mk rfl) fo77_1) rfl ?_
   refine St.ev _ (Ev.ldb (.mk rfl) Tryd.underlying75 trivial (by rfl)) rfl ?_
   refine St.ev _ (Ev.lensl (.mk rfl) Tryd.underlying75) rfl ?_
   refine St.mv ?_
   refine St.nil (St.then_normal (St.block ?_))
   refine St.loopH2 (ι := Nat) (κ := Nat) (fun k z T => (49, iv k) :: T) (fun k z => [blk bn (.cells [iv (z : Nat)].toArray 3 (0, 0)), blk bw (.cells [(.func (.func 80) #[] [Value.pointer (some ⟨bn, 0, none⟩), Value.pointer (some ⟨bw, 0, none⟩)].toArray)].toArray tw (0, 0)), dat (sl simR x.av.1 x.args), dat (dall simD x.args)]) (fun k z => k ≤ x.args.length ∧ z ≤ 200 ∧ simWL (x.args.map simE) (d + 1) (n + 1) = simWL ((x.args.map simE).drop k) (d + 1) z) (fun k z => x.args.length - k) 0 (n + 1) (Keep.cons 1 rfl (Keep.cons 3 rfl (Keep.cons 47 rfl (Keep.cons 48 rfl Keep.nil)))) ⟨Nat.zero_le _, by omega, rfl⟩ (by repeat (first | exact Sub.nil | refine Sub.cons (by first | rfl | exact congrArg (fun z => some (iv z)) (by first | omega | (dsimp only; omega)) | exact congrArg (fun z => some (Value.bool z)) (by first | assumption | exact Eq.symm (by assumption))) ?_)) (fun _ hw => hw.sub) ?_
   rintro k z ⟨hk, hz, hsl⟩
   refine St.seq (St.rg ?_)
   refine St.ev _ (Ev.lss (.mk rfl) (.mk rfl)) rfl ?_
   refine St.nil (St.then_normal (St.seq ?_))
   refine St.cond _ rfl (fun h50 => ?_) (fun h50 => ?_)
   ·skip
    try simp only [jbAll] at h50
    obtain ⟨y, hy⟩ := some_of_lt (show k < x.args.length by omega)
    have hym := List.mem_of_getElem? hy
    have hstep := simWL_drop (l := x.args.map simE) (k := k) (y := simE y) (by rw [List.getElem?_map, hy]; rfl) (d + 1) z
    refine St.dallAt simD x.args (x := y) hym ?_
    have hle := simW_le (simE y) (d + 1) z hz
    refine St.skip (St.then_normal (St.seq (St.block (St.seq (St.rg ?_)))))
    refine St.ev _ (Ev.idxaddr (k := k) (.mk rfl) (.mk rfl) Tryd.underlying75 sz77 (by omega) (by omega)) rfl ?_
    refine St.ev _ (Ev.ldA (.mk rfl) hy Tryd.underlying77 trivial sz77 Cel.eq) rfl ?_
    refine St.alloc zc77 rfl (fun b9 => ?_)
    refine St.storeA (Opd.mk rfl) (Opd.mk rfl) sz77 (by first | simp only [List.length_cons, List.length_nil] | rfl) (by simp only [List.all_cons, List.all_nil, Bool.and_true, Bool.and_eq_true]; exact ⟨rfl, y.av.2⟩) ?_
    refine St.nil (St.then_normal (St.seq (St.rg ?_)))
    refine St.ev _ (Ev.ldb (.mk rfl) Tryd.underlying163 trivial (by rfl)) rfl ?_
    refine St.ev _ (Ev.ldbA (.mk rfl) Tryd.underlying77 trivial (by exact sz77)) rfl ?_
    refine St.mv ?_
    refine St.ev _ (Ev.add (.mk rfl) (.mk rfl) (by omega)) rfl ?_
    refine St.slot 56 (iv ((d + 1 : Nat) : Int)) rfl rfl ?_
    refine St.callc (ih y hym (d + 1) z (by omega) hz) cb80 (.mk rfl) (.cons (.mk rfl) (.cons (.mk rfl) .nil)) rfl ?_
    rintro v57 _ ⟨rfl, rfl⟩
    refine St.app2 ?_
    refine St.asg ?_
    refine St.nil (St.then_normal (St.seq (St.rg ?_)))
    refine St.mv ?_
    refine St.ev _ (Ev.neq (.mk rfl) (.mk rfl)) rfl ?_
    refine St.nil (St.then_normal ?_)
    refine St.cond _ rfl (fun h59 => ?_) (fun h59 => ?_)
    ·skip
     try simp only [jbAll] at h59
     refine St.seq (St.rg ?_)
     refine St.mv ?_
     refine St.asg ?_
     refine St.nil (St.then_normal (St.rett (St.in_ret (St.then_ret (St.then_ret (St.in_ret (St.then_ret ?_)))))))
     refine St.rets [_] [blk bn (.cells [iv ((simW (simE y) (d + 1) z).1 : Nat)].toArray 3 (0, 0)), blk bw (.cells [(.func (.func 80) #[] [Value.pointer (some ⟨bn, 0, none⟩), Value.pointer (some ⟨bw, 0, none⟩)].toArray)].toArray tw (0, 0))] Tryd.results80 ⟨rfl, trivial⟩ ?_ (fun _ hw => hw.sub)
     rw [hsw, hsl, hstep, if_pos (by omega)]; exact ⟨rfl, rfl⟩
    ·skip
     try simp only [jbAll] at h59
     refine St.skip (St.in_normal (St.then_normal (St.rg ?_)))
     refine St.ev _ (Ev.add (.mk rfl) (.mk rfl) (by omega)) rfl ?_
     refine St.mv ?_
     refine St.nil (St.then_normal ?_)
     have hz2 := (simW_ok (simE y) (d + 1) z (by omega)).2.2
     refine St.againH2 (k + 1) (simW (simE y) (d + 1) z).1 ⟨by omega, hz2, by rw [hsl, hstep, if_neg (by omega)]⟩ (by first | omega | (dsimp only; omega)) (by repeat (first | exact Sub.nil | refine Sub.cons (by first | rfl | exact congrArg (fun z => some (iv z)) (by first | omega | (dsimp only; omega)) | exact congrArg (fun z => some (Value.bool z)) (by first | assumption | exact Eq.symm (by assumption))) ?_)) (fun _ hw => hw.sub)
   ·skip
    try simp only [jbAll] at h50
    rw [simWL_end (by rw [List.length_map]; omega)] at hsl
    refine St.exit (St.then_exit (St.then_exit (St.in_hit (St.then_normal (St.seq (St.rg ?_))))))
    refine St.asg ?_
    refine St.nil (St.then_normal (St.rett ?_))
    refine St.rets [_] [blk bn (.cells [iv (z : Nat)].toArray 3 (0, 0)), blk bw (.cells [(.func (.func 80) #[] [Value.pointer (some ⟨bn, 0, none⟩), Value.pointer (some ⟨bw, 0, none⟩)].toArray)].toArray tw (0, 0))] Tryd.results80 ⟨rfl, trivial⟩ ?_ (fun _ hw => hw.sub)
    rw [hsw, hsl]; exact ⟨rfl, rfl⟩
theorem simVal_spec (x : SimD) : FnV Tryd.prog 69 #[simV x] [simD x] (fv (simF (simE x), 0)) := by
 refine FnV.body1 (args := [simV x]) 10 Tryd.func69 rfl Tryd.ntmps69 rfl (fun c => ?_)
 refine St.seq (St.rg ?_)
 refine St.boxA (.mk rfl) rfl (fun b1 => ?_)
 refine St.alloc zc42 rfl (fun b2 => ?_)
 refine St.nil (St.then_normal (St.seq (St.rg ?_)))
 refine St.alloc zc3 rfl (fun b3 => ?_)
 refine St.store1 (.mk rfl) (.mk rfl) sz3 rfl (by rfl) ?_
 refine St.blkEq b3 (L' := [iv ((0 : Nat) : Int)]) rfl ?_
 refine St.nil (St.then_normal (St.seq (St.rg ?_)))
 refine St.alloc zc163 rfl (fun b4 => ?_)
 refine St.nil (St.then_normal (St.seq (St.rg ?_)))
 refine St.ev _ (Ev.func (.cons (.mk rfl) (.cons (.mk rfl) .nil))) rfl ?_
 refine St.store1 (.mk rfl) (.mk rfl) sz163 rfl (by rfl) ?_
 refine St.nil (St.then_normal (St.seq (St.rg ?_)))
 refine St.ev _ (Ev.ldb (.mk rfl) Tryd.underlying163 trivial (by rfl)) rfl ?_
 refine St.ev _ (Ev.ldbA (.mk rfl) Tryd.underlying77 trivial (by exact sz77)) rfl ?_
 refine St.callc (simWalk_spec b3 b4 163 x 1 0 (by omega) (by omega)) cb80 (.mk rfl) (.cons (.mk rfl) (.cons (.mk rfl) .nil)) rfl ?_
 rintro v8 _ ⟨rfl, rfl⟩
 refine St.app2 ?_
 refine St.ev _ (Ev.build (ps := [(0, (.tmp 8))]) (Opds.cons (Opd.mk rfl) Opds.nil) (fun w => bld42_0 rfl w)) rfl ?_
 refine St.storeA (Opd.mk rfl) (Opd.mk rfl) sz42 (by first | simp only [List.length_cons, List.length_nil] | rfl) rfl ?_
 refine St.nil (St.then_normal (St.rett ?_))
 refine St.rets [_] [] Tryd.results69 ⟨⟨_, _, _, _, rfl, InB.mem, .inl ⟨⟨_, Tryd.underlying42⟩, sz42, rfl⟩⟩, trivial⟩ ?_ (fun _ hw => hw.sub)
 rfl
theorem sameS_eq (x y : Sm0) : sameS x y = (decide (x.base = y.base) && decide (x.args.length = y.args.length) && sameSL x.args y.args) := by cases x; cases y; rw [sameS]; rfl
theorem sameSL_drop {l m : List Sm0} {k : Nat} {x y : Sm0} (hx : l[k]? = some x) (hy : m[k]? = some y) : sameSL (l.drop k) (m.drop k) = (sameS x y && sameSL (l.drop (k + 1)) (m.drop (k + 1))) := by rw [drop_of_some hx, drop_of_some hy, sameSL]
theorem sameSL_end {l m : List Sm0} {k : Nat} (h : l.length ≤ k) : sameSL (l.drop k) (m.drop k) = true := by rw [List.drop_of_length_le h, sameSL]; intro _ _ _ _ h; cases h
theorem same_spec : ∀ (x y : SimD), FnV Tryd.prog 81 #[simV x, simV y] [simD x, simD y] (.bool (sameS (simE x) (simE y))) := by
 intro x
 induction x using SimD.ind
 rename_i x ih
 intro y
 refine FnV.body2 (args := [simV x, simV y]) 39 Tryd.func81 rfl Tryd.ntmps81 rfl (fun c => ?_)
 refine St.seq ?_
 have hs := sameS_eq (simE x) (simE y)
 rw [simE_base, simE_base, simE_args, simE_args, List.length_map, List.length_map] at hs
 refine St.openSim x ?_
 refine St.openSim y ?_
 refine St.wf x.av.1 (fun hxw hxl => ?_)
 refine St.rg ?_
 refine St.boxA (.mk rfl) rfl (fun b2 => ?_)
 refine St.boxA (.mk rfl) rfl (fun b3 => ?_)
 refine St.asg ?_
 refine St.nil (St.then_normal (St.seq (St.seq (St.rg ?_))))
 refine St.ev _ (Ev.fldb0 (.mk rfl) fo77_0) rfl ?_
 refine St.ev _ (Ev.ldb (.mk rfl) Tryd.underlying9 trivial (by rfl)) rfl ?_
 refine St.ev _ (Ev.fldb0 (.mk rfl) fo77_0) rfl ?_
 refine St.ev _ (Ev.ldb (.mk rfl) Tryd.underlying9 trivial (by rfl)) rfl ?_
 refine St.ev _ (Ev.strne (.mk rfl) (.mk rfl)) rfl ?_
 refine St.mv ?_
 refine St.gf _ rfl rfl (fun hg => Ev.fldb0 (.mk rfl) fo77_1) rfl ?_
 refine St.gf _ rfl rfl (fun hg => Ev.ldb (Opd.gv rfl hg) Tryd.underlying75 trivial (by rfl)) rfl ?_
 refine St.gf _ rfl rfl (fun hg => Ev.lensl (Opd.gv rfl hg) Tryd.underlying75) rfl ?_
 refine St.gf _ rfl rfl (fun hg => Ev.fldb0 (.mk rfl) fo77_1) rfl ?_
 refine St.gf _ rfl rfl (fun hg => Ev.ldb (Opd.gv rfl hg) Tryd.underlying75 trivial (by rfl)) rfl ?_
 refine St.gf _ rfl rfl (fun hg => Ev.lensl (Opd.gv rfl hg) Tryd.underlying75) rfl ?_
 refine St.gf _ rfl rfl (fun hg => Ev.neq (Opd.gv rfl hg) (Opd.gv rfl hg)) rfl ?_
 refine St.ev _ (Ev.or (.mk rfl) (fun hp => Opd.gv rfl hp)) rfl ?_
 refine St.nil (St.then_normal ?_)
 refine St.cond _ rfl (fun h19 => ?_) (fun h19 => ?_)
 ·skip
  try simp only [jbAll] at h19
  refine St.seq (St.rg ?_)
  refine St.asg ?_
  refine St.nil (St.then_normal (St.rett (St.then_ret ?_)))
  refine St.rets [_] [] Tryd.results81 ⟨rfl, trivial⟩ ?_ (fun _ hw => hw.sub)
  exact be (by rw [hs]; rcases h19 with h | h <;> simp [h] <;> omega)
 ·skip
  try simp only [jbAll] at h19
  obtain ⟨hb, hl⟩ : x.base = y.base ∧ x.args.length = y.args.length := ⟨by simpa using h19.1, by have := h19.2; omega⟩
  rw [hb, hl, decide_eq_true rfl, decide_eq_true rfl, Bool.true_and, Bool.true_and] at hs
  refine St.skip (St.then_normal (St.seq (St.seq (St.rg ?_))))
  refine St.ev _ (Ev.fldb0 (.mk rfl) fo77_1) rfl ?_
  refine St.ev _ (Ev.ldb (.mk rfl) Tryd.underlying75 trivial (by rfl)) rfl ?_
  refine St.ev _ (Ev.lensl (.mk rfl) Tryd.underlying75) rfl ?_
  refine St.mv ?_
  refine St.nil (St.then_normal (St.block ?_))
  refine St.loopS (ι := Nat) (fun k T => (23, iv k) :: T) (fun k => k ≤ x.args.length ∧ sameSL (x.args.map simE) (y.args.map simE) = sameSL ((x.args.map simE).drop k) ((y.args.map simE).drop k)) (fun k => x.args.length - k) 0 (Keep.cons 2 rfl (Keep.cons 3 rfl (Keep.cons 22 rfl Keep.nil))) ⟨Nat.zero_le _, rfl⟩ (by repeat (first | exact Sub.nil | refine Sub.cons (by first | rfl | exact congrArg (fun z => some (iv z)) (by first | omega | (dsimp only; omega)) | exact congrArg (fun z => some (Value.bool z)) (by first | assumption | exact Eq.symm (by assumption))) ?_)) ?_
  intro k hphi
  obtain ⟨hk, hv⟩ := hphi
  refine St.seq (St.rg ?_)
  refine St.ev _ (Ev.lss (.mk rfl) (.mk rfl)) rfl ?_
  refine St.nil (St.then_normal (St.seq ?_))
  refine St.cond _ rfl (fun h24 => ?_) (fun h24 => ?_)
  ·skip
   try simp only [jbAll] at h24
   obtain ⟨u, hu⟩ := some_of_lt (show k < x.args.length by omega)
   obtain ⟨w, hw⟩ := some_of_lt (show k < y.args.length by omega)
   refine St.dallAt simD x.args (x := u) (List.mem_of_getElem? hu) ?_
   refine St.dallAt simD y.args (x := w) (List.mem_of_getElem? hw) ?_
   have hstep := sameSL_drop (l := x.args.map simE) (m := y.args.map simE) (k := k) (x := simE u) (y := simE w) (by rw [List.getElem?_map, hu]; rfl) (by rw [List.getElem?_map, hw]; rfl)
   refine St.skip (St.then_normal (St.seq (St.block (St.seq (St.rg ?_)))))
   refine St.mv ?_
   refine St.asg ?_
   refine St.nil (St.then_normal (St.seq ?_))
   refine St.rq mixed (by kernel_rfl) (Mm.drawn _ _) ?_
   refine Sq.ev _ (Ev.fldb0 (.mk rfl) fo77_1) rfl ?_
   refine Sq.ev _ (Ev.ldb (.mk rfl) Tryd.underlying75 trivial (by rfl)) rfl ?_
   refine Sq.ev _ (Ev.move (.mk rfl)) rfl ?_
   refine Sq.ev _ (Ev.idxaddr (k := k) (.mk rfl) (.mk rfl) Tryd.underlying75 sz77 (by omega) (by omega)) rfl ?_
   refine Sq.ev _ (Ev.ldA (.mk rfl) hu Tryd.underlying77 trivial sz77 Cel.eq) rfl ?_
   refine Sq.ev _ (Ev.fldb0 (.mk rfl) fo77_1) rfl ?_
   refine Sq.ev _ (Ev.ldb (.mk rfl) Tryd.underlying75 trivial (by rfl)) rfl ?_
   refine Sq.ev _ (Ev.move (.mk rfl)) rfl ?_
   refine Sq.ev _ (Ev.idxaddr (k := k) (.mk rfl) (.mk rfl) Tryd.underlying75 sz77 (by omega) (by omega)) rfl ?_
   refine Sq.ev _ (Ev.ldA (.mk rfl) hw Tryd.underlying77 trivial sz77 Cel.eq) rfl ?_
   refine Sq.ev _ (Ev.call (ih u (List.mem_of_getElem? hu) w) cb81 (.cons (.mk rfl) (.cons (.mk rfl) .nil))) rfl ?_
   refine Sq.ev _ (Ev.not (.mk rfl)) rfl ?_
   refine Sq.nil ?_
   refine St.then_normal ?_
   refine St.cond _ rfl (fun h37 => ?_) (fun h37 => ?_)
   ·skip
    skip
    refine St.seq (St.rg ?_)
    refine St.asg ?_
    refine St.nil (St.then_normal (St.rett (St.in_ret (St.then_ret (St.then_ret (St.in_ret (St.then_ret ?_)))))))
    refine St.rets [_] [] Tryd.results81 ⟨rfl, trivial⟩ ?_ (fun _ hw => hw.sub)
    exact be (by rw [hs, hv, hstep, show sameS (simE u) (simE w) = false by simpa using h37]; rfl)
   ·skip
    skip
    refine St.skip (St.in_normal (St.then_normal (St.rg ?_)))
    refine St.ev _ (Ev.add (.mk rfl) (.mk rfl) (by omega)) rfl ?_
    refine St.mv ?_
    refine St.nil (St.then_normal ?_)
    refine St.againS (k + 1) ⟨by omega, by rw [hv, hstep, show sameS (simE u) (simE w) = true by simpa using h37, Bool.true_and]⟩ (by first | omega | (dsimp only; omega)) (by repeat (first | exact Sub.nil | refine Sub.cons (by first | rfl | exact congrArg (fun z => some (iv z)) (by first | omega | (dsimp only; omega)) | exact congrArg (fun z => some (Value.bool z)) (by first | assumption | exact Eq.symm (by assumption))) ?_)) (fun _ hw => hw.sub)
  ·skip
   try simp only [jbAll] at h24
   rw [sameSL_end (by rw [List.length_map]; omega)] at hv
   refine St.exit (St.then_exit (St.then_exit (St.in_hit (St.then_normal (St.seq (St.rg ?_))))))
   refine St.asg ?_
   refine St.nil (St.then_normal (St.rett ?_))
   refine St.rets [_] [] Tryd.results81 ⟨rfl, trivial⟩ ?_ (fun _ hw => hw.sub)
   exact be (by rw [hs, hv])
end Go.Proofs.YtolmidffiegkaaaDoor
