/-
  Laws of walks through programs, and facts on grammars, trees and queries.
  Conditions: none.
-/
import Derived.WalkKit
import Derived.Deep.Quiet
import Derived.Deep.LoopGhost
import Derived.Laws.StructEq
import Derived.ProofKit
import Derived.OpenShut
import Derived.JoinedCond
import Derived.Carry
import Derived.Deep.Slices
import Derived.SizedLaws
import Derived.Still
import Derived.MapKept
import Derived.Lib.LaidU8
import Derived.LaidMore
import Derived.Lay
import Derived.Stop.Joined
import Derived.Deep.DeepHandedRow
import Derived.Lib.Mul64
import Derived.Shelf.Spec.BitsCarry
import Derived.Laws.IdiomStrings
import Derived.Stop.IfaceNil
import Derived.Below
set_option linter.unusedVariables false
set_option linter.unusedSimpArgs false
namespace Go.J
open Go
abbrev Fr:=List (Nat×Value)
def look:Fr→Nat→Option Value
 | [],_=>none
 |(k,v)::F,t=>bif Nat.beq t k then some v else look F t
def vl (F:Fr):Operand→Option Value
 | .tmp t=>look F t
 | .const v=>some v
 | .func f=>some (.func (.func f) #[] #[])
 | .global g=>some (.pointer (some ⟨g,0,none⟩))
structure Has (n:Nat)(a:Act)(F:Fr):Prop where
 size:a.tmps.size=n
 defers:a.defers=[]
 slot:∀t v,look F t=some v→a.tmps[t]?=some v
theorem Has.eval {n:Nat}{a:Act}{F:Fr}{x:Operand}{v:Value}(h:Has n a F)(hx:vl F x=some v):a.eval x=v:=by
 cases x with
 |tmp t=>simp only[vl]at hx;simp[Act.eval,Array.getD_eq_getD_getElem?,h.slot _ _ hx]
 |const u=>simp only[vl,Option.some.injEq]at hx;exact hx
 |func f=>simp only[vl,Option.some.injEq]at hx;exact hx
 |global g=>simp only[vl,Option.some.injEq]at hx;exact hx
theorem Has.put {n:Nat}{a:Act}{F:Fr}(h:Has n a F){d:Nat}(hd:d<n)(v:Value):Has n (a.put (some d) v) ((d,v)::F):=by
 refine⟨by simp[Act.put,h.size],by simp[Act.put,h.defers],fun t u hu=> ?_⟩
 simp only[look]at hu
 cases hb:Nat.beq t d with
 |true=>
  have e:t=d:=Nat.eq_of_beq_eq_true hb
  subst e
  simp only[hb,cond_true,Option.some.injEq]at hu
  subst hu
  simp[Act.put,h.size,hd]
 |false=>
  have e:t≠d:=Nat.ne_of_beq_eq_false hb
  simp only[hb,cond_false]at hu
  simp[Act.put,Ne.symm e,h.slot _ _ hu]
theorem Has.Ex {n:Nat}{a:Act}{F:Fr}(h:Has n a F)(v:Value):Has n (a.put none v) F:=h
def Sub:Fr→Fr→Prop
 | [],_=>True
 |(k,v)::F',F=>look F k=some v∧Sub F' F
theorem Sub.look {F' F:Fr}(h:Sub F' F):∀t v,look F' t=some v→J.look F t=some v:=by
 induction F' with
 |nil=>intro t v hv;simp[J.look]at hv
 |cons p F' ih=>
  obtain⟨k,u⟩:=p;intro t v hv
  simp only[J.look]at hv
  cases hb:Nat.beq t k with
  |true=>
   have e:t=k:=Nat.eq_of_beq_eq_true hb
   subst e
   simp only[hb,cond_true,Option.some.injEq]at hv
   subst hv;exact h.1
  |false=>
   simp only[hb,cond_false]at hv
   exact ih h.2 t v hv
theorem Has.sub {n:Nat}{a:Act}{F F':Fr}(h:Has n a F)(hs:Sub F' F):Has n a F':=⟨h.size,h.defers,fun t v hv=>h.slot t v (hs.look t v hv)⟩
def St (n:Nat)(F:Fr)(A:World→Prop)(T:Act→World→Prop):Prop:=∀a w,Has n a F→A w→T a w
section
variable {P:Program}{n:Nat}{F:Fr}{A:World→Prop}{Q:Exit→Act→World→Prop}{ops:Array Oper}
theorem St.sL {A':World→Prop}{T:Act→World→Prop}(hA:∀w,A w→A' w)(h:St n F A' T):St n F A T:=
 fun a w ha hw=>h a w ha (hA w hw)
theorem St.and {p:Prop}{T:Act→World→Prop}(h:p→St n F A T):St n F (fun w=>p∧A w) T:=
 fun a w ha hw=>h hw.1 a w ha hw.2
theorem St.seq {x y:Code}(h:St n F A (x.wp P (Exit.then (y.wp P Q) Q))):St n F A ((Code.seq x y).wp P Q):=
 fun a w ha hw=>wp_seq (h a w ha hw)
theorem St.skip (h:St n F A (Q .normal)):St n F A (Code.skip.wp P Q):=fun a w ha hw=>wp_skip (h a w ha hw)
theorem St.ab (h:St n F A (Q .ret)):St n F A (Code.ret.wp P Q):=fun a w ha hw=>wp_ret (h a w ha hw)
theorem St.exit {id:Nat}(h:St n F A (Q (.exit id))):St n F A ((Code.exit id).wp P Q):=fun a w ha hw=>wp_exit (h a w ha hw)
theorem St.block {id:Nat}{c:Code}(h:St n F A (c.wp P (Exit.inBlock id Q))):St n F A ((Code.block id c).wp P Q):=
 fun a w ha hw=>wp_block (h a w ha hw)
theorem St.cond {c:Operand}{x y:Code}(t:Bool)(hc:vl F c=some (.bool t))(ht:t=true→St n F A (x.wp P Q))(hf:t=false→St n F A (y.wp P Q)):
 St n F A ((Code.cond c x y).wp P Q):=
 fun a w ha hw=>wp_cond_split (ha.eval hc) (fun h=>ht h a w ha hw) (fun h=>hf h a w ha hw)
theorem St.Lm {c:Operand}{x y:Code}(t:Bool)(hc:vl F c=some (.bool t))(h:t=true)(ht:St n F A (x.wp P Q)):
 St n F A ((Code.cond c x y).wp P Q):=
 fun a w ha hw=>wp_cond_true (by rw[ha.eval hc,h]) (ht a w ha hw)
theorem St.oy {c:Operand}{x y:Code}(t:Bool)(hc:vl F c=some (.bool t))(h:t=false)(hf:St n F A (y.wp P Q)):
 St n F A ((Code.cond c x y).wp P Q):=
 fun a w ha hw=>wp_cond_false (by rw[ha.eval hc,h]) (hf a w ha hw)
theorem St.aA {K:Act→World→Prop}(h:St n F A K):St n F A (Exit.then K Q .normal):=h
theorem St.aI {K:Act→World→Prop}{id:Nat}(h:St n F A (Q (.exit id))):St n F A (Exit.then K Q (.exit id)):=h
theorem St.aB {K:Act→World→Prop}(h:St n F A (Q .ret)):St n F A (Exit.then K Q .ret):=h
theorem St.aO {id:Nat}(h:St n F A (Q .normal)):St n F A (Exit.inBlock id Q .normal):=h
theorem St.aN {id:Nat}(h:St n F A (Q .ret)):St n F A (Exit.inBlock id Q .ret):=h
theorem St.bM {id:Nat}(h:St n F A (Q .normal)):St n F A (Exit.inBlock id Q (.exit id)):=by
 intro a w ha hw
 simp only[Exit.inBlock,if_true]
 exact h a w ha hw
theorem St.J6 {id Wn:Nat}(fj:Nat.beq Wn id=false)(h:St n F A (Q (.exit Wn))):St n F A (Exit.inBlock id Q (.exit Wn)):=by
 intro a w ha hw
 simp only[Exit.inBlock,if_neg (Nat.ne_of_beq_eq_false fj)]
 exact h a w ha hw
theorem St.loop {ι:Type _}{body:Code}(Fi:ι→Fr)(Ai:ι→World→Prop)(μ:ι→Nat)(gR:ι)(hF:Sub (Fi gR) F)(hA:∀w,A w→Ai gR w)
 (round:∀x,St n (Fi x) (Ai x) (body.wp P (Exit.then (fun a' w'=>∃y,μ y<μ x∧Has n a' (Fi y)∧Ai y w') Q))):
 St n F A ((Code.loop body).wp P Q):=by
 intro a w ha hw;refine wp_loop_ghost (fun k a w=>∃x,μ x=k∧Has n a (Fi x)∧Ai x w) (μ gR) ⟨gR,rfl,ha.sub hF,hA w hw⟩ ?_;rintro k a w ⟨x,rfl,hx,hAx⟩;refine wp_mono (round x a w hx hAx) ?_;intro e a' w' hq
 cases e with
 |normal=>obtain⟨y,h1,h2,h3⟩:=hq;exact⟨μ y,h1,y,rfl,h2,h3⟩
 |exit id=>exact hq
 |goto l=>exact hq
 |ret=>exact hq
 |panic ch=>exact hq
 |outgrown=>exact hq
theorem St.rg {id:Nat}{l:List Oper}(h:St n F A (wpList P l.toArray Q l)):St n F A ((Code.region id l.toArray false).wp P Q):=
 fun a w ha hw=>wp_region_lit (h a w ha hw)
theorem St.nil (h:St n F A (Q .normal)):St n F A (wpList P ops Q []):=h
abbrev bare (op : Op) (ty : TypeId) : Oper := { dst := none, op := op, type := ty, pos := "", after := #[], guard := none }
theorem fk (ρ:Operand→Value)(o:Oper):execOp ρ o=execOp ρ (bare o.op o.type):=by
 obtain⟨d,op,ty,p,af,g⟩:=o
 cases op<;>rfl
def Ev (P:Program)(n:Nat)(F:Fr)(A:World→Prop)(op:Op)(ty:TypeId)(v:Value):Prop:=
 ∀a w,Has n a F→A w→Oper.quietUpon P A w v ((execOp a.eval (bare op ty)).run P w)
theorem Ev.quietAt {op:Op}{ty:TypeId}{v:Value}(h:Ev P n F A op ty v){d:Option Tmp}{pos:String}{after:Array Edge}{g:Option (Nat×Bool)}{a:Act}{w:World}
 (ha:Has n a F) (hw:A w):({dst:=d,op:=op,type:=ty,pos:=pos,after:=after,guard:=g}:Oper).quietAt P a A w v:=by
 unfold Oper.quietAt;rw[fk];exact h a w ha hw
theorem Ev.wp {op:Op}{ty:TypeId}{v:Value}(h:Ev P n F A op ty v){d:Option Tmp}{pos:String}{after:Array Edge}{g:Option (Nat×Bool)}{a:Act}{w:World}
 (ha:Has n a F) (hw:A w) {K:Act→World→Prop} (hk:∀w',A w'→K (a.put d v) w'):
 ({dst:=d,op:=op,type:=ty,pos:=pos,after:=after,guard:=g}:Oper).wp P a w K Q:=by
 unfold Oper.wp Oper.upon;rw[fk]
 have hh:=h a w ha hw
 simp only at hh⊢
 generalize (execOp a.eval (bare op ty)).run P w=r at hh
 cases r with
 |ok nx w'=>
  cases nx<;>simp only[Oper.quietUpon]at hh<;>(try exact hh.elim)
  ·obtain⟨rfl,rfl⟩:=hh;exact hk _ hw
  ·obtain⟨rfl,rfl⟩:=hh;exact hk _ hw
  ·obtain⟨rfl,hc⟩:=hh
   exact hc.mono fun e Ln he=>by
    obtain⟨rfl,hA⟩:=he;exact hk _ hA
 |halt x w'=>simp only[Oper.quietUpon]at hh
theorem iW {o:Oper}{rest:List Oper}{a:Act}{w:World}(hg:o.guard=none)(h:o.wp P a w (wpList P ops Q rest) Q):wpList P ops Q (o::rest) a w:=by
 simp only[wpList,Region.wanted,hg,if_true]
 exact .inl h
theorem St.ev {d:Nat}{op:Op}{ty:TypeId}{pos:String}{after:Array Edge}{rest:List Oper}(v:Value)(lh:Ev P n F A op ty v)(hd:Nat.ble (d+1) n=true)
 (h:St n ((d,v)::F) A (wpList P ops Q rest)):
 St n F A (wpList P ops Q ({dst:=some d,op:=op,type:=ty,pos:=pos,after:=after,guard:=none}::rest)):=
 fun a w ha hw=>iW rfl (lh.wp ha hw fun w' yJ=>h _ w' (ha.put (Nat.le_of_ble_eq_true hd) v) yJ)
@[irreducible] def gv (c:Bool)(v:Value):Value:=bif c then v else undef
theorem an {c:Bool}(h:c=true)(v:Value):gv c v=v:=by unfold gv;simp[h]
theorem ag {c:Bool}(h:c=false)(v:Value):gv c v=undef:=by unfold gv;simp[h]
def aL (F:Fr)(x:Operand)(v:Value):Prop:=∃u,vl F x=some u∧u=v
theorem aL.mk {x:Operand}{v:Value}(h:vl F x=some v):aL F x v:=⟨v,h,rfl⟩
theorem aL.gv {x:Operand}{v:Value}{c:Bool}(h:vl F x=some (gv c v))(hc:c=true):aL F x v:=⟨_,h,an hc v⟩
theorem aL.eval {x:Operand}{v:Value}(h:aL F x v){a:Act}(ha:Has n a F):a.eval x=v:=by
 obtain⟨u,h1,rfl⟩:=h;exact ha.eval h1
theorem kH {a b:Bool}(h:a=true)(k:b=true):(a&&b)=true:=by simp[h,k]
def NH:Value→Option Bool
 | .bool b=>some b
 |_=>none
theorem AR {l:Array Oper}{j dj:Nat}{u:Value}{tmps:Array Value}(hj:(l[j]?).bind (·.dst)=some dj)(h:tmps[dj]?=some u):
 yielded l tmps j=NH u:=by
 unfold yielded;rw[hj]
 simp only[Option.bind_some,h]
 cases u<;>rfl
theorem lI {l:Array Oper}{o:Oper}{j dj:Nat}{want c:Bool}{a:Act}{u:Value}(hg:o.guard=some (j,want))(hj:(l[j]?).bind (·.dst)=some dj)(h:a.tmps[dj]?=some u)
 (hu:(c=true→u= .bool want)∧(c=false→u= .bool (!want)∨u=undef)):Region.wanted o (yielded l a.tmps)=c:=by
 unfold Region.wanted;rw[hg]
 simp only[]
 rw[AR hj h]
 cases c with
 |true=>rw[hu.1 rfl];cases want<;>rfl
 |false=>
  rcases hu.2 rfl with h|h
  ·rw[h];cases want<;>rfl
  ·rw[h];cases want<;>rfl
theorem St.guarded {j:Nat}{want:Bool}{d:Nat}{op:Op}{ty:TypeId}{pos:String}{after:Array Edge}{rest:List Oper}(c:Bool){dj:Nat}{u:Value}(v:Value)
 (hj:(ops[j]?).bind (·.dst)=some dj) (hl:look F dj=some u) (hu:(c=true→u= .bool want)∧(c=false→u= .bool (!want)∨u=undef))
 (lh:c=true→Ev P n F A op ty v) (hd:Nat.ble (d+1) n=true) (h:St n ((d,gv c v)::F) A (wpList P ops Q rest)):
 St n F A (wpList P ops Q ({dst:=some d,op:=op,type:=ty,pos:=pos,after:=after,guard:=some (j,want)}::rest)):=by
 intro a w ha hw
 have lJ:=Nat.le_of_ble_eq_true hd
 have qE:=lI (l:=ops) (o:={dst:=some d,op:=op,type:=ty,pos:=pos,after:=after,guard:=some (j,want)}) rfl hj (ha.slot _ _ hl) hu
 simp only[wpList,qE]
 cases hc:c with
 |true=>
  rw[hc]at h
  simp only[if_true]
  refine .inl ((lh hc).wp ha hw fun w' yJ=> ?_)
  have:=h _ w' (ha.put lJ (gv true v)) yJ
  rwa[an rfl]at this
 |false=>
  rw[hc]at h
  have:=h _ w (ha.put lJ (gv false v)) hw
  rw[ag rfl]at this
  simpa using this
theorem NI (g:Bool):(g=true→Value.bool g= .bool true)∧(g=false→Value.bool g= .bool (!true)∨Value.bool g=undef):=by cases g<;>simp
theorem NJ (g:Bool):((!g)=true→Value.bool g= .bool false)∧((!g)=false→Value.bool g= .bool (!false)∨Value.bool g=undef):=by cases g<;>simp
theorem QJ (c g:Bool):((c&&g)=true→J.gv c (.bool g)= .bool true)∧((c&&g)=false→J.gv c (.bool g)= .bool (!true)∨J.gv c (.bool g)=undef):=by
 cases c<;>cases g<;>simp[gv]
theorem QK (c g:Bool):((c&& !g)=true→J.gv c (.bool g)= .bool false)∧((c&& !g)=false→J.gv c (.bool g)= .bool (!false)∨J.gv c (.bool g)=undef):=by
 cases c<;>cases g<;>simp[gv]
section
variable {j:Nat}{d:Nat}{op:Op}{ty:TypeId}{pos:String}{after:Array Edge}{rest:List Oper}{dj:Nat}(v:Value)
theorem St.gt {g:Bool}(hj:(ops[j]?).bind (·.dst)=some dj)(hl:look F dj=some (.bool g))(lh:g=true→Ev P n F A op ty v)(hd:Nat.ble (d+1) n=true)
 (h:St n ((d,gv g v)::F) A (wpList P ops Q rest)):
 St n F A (wpList P ops Q ({dst:=some d,op:=op,type:=ty,pos:=pos,after:=after,guard:=some (j,true)}::rest)):=St.guarded g v hj hl (NI g) lh hd h
theorem St.gf {g:Bool}(hj:(ops[j]?).bind (·.dst)=some dj)(hl:look F dj=some (.bool g))(lh:(!g)=true→Ev P n F A op ty v)(hd:Nat.ble (d+1) n=true)
 (h:St n ((d,gv (!g) v)::F) A (wpList P ops Q rest)):
 St n F A (wpList P ops Q ({dst:=some d,op:=op,type:=ty,pos:=pos,after:=after,guard:=some (j,false)}::rest)):=St.guarded (!g) v hj hl (NJ g) lh hd h
theorem St.yD {c g:Bool}(hj:(ops[j]?).bind (·.dst)=some dj)(hl:look F dj=some (gv c (.bool g)))(lh:(c&&g)=true→Ev P n F A op ty v)(hd:Nat.ble (d+1) n=true)
 (h:St n ((d,gv (c&&g) v)::F) A (wpList P ops Q rest)):
 St n F A (wpList P ops Q ({dst:=some d,op:=op,type:=ty,pos:=pos,after:=after,guard:=some (j,true)}::rest)):=St.guarded (c&&g) v hj hl (QJ c g) lh hd h
theorem St.ny {c g:Bool}(hj:(ops[j]?).bind (·.dst)=some dj)(hl:look F dj=some (gv c (.bool g)))(lh:(c&& !g)=true→Ev P n F A op ty v)(hd:Nat.ble (d+1) n=true)
 (h:St n ((d,gv (c&& !g) v)::F) A (wpList P ops Q rest)):
 St n F A (wpList P ops Q ({dst:=some d,op:=op,type:=ty,pos:=pos,after:=after,guard:=some (j,false)}::rest)):=St.guarded (c&& !g) v hj hl (QK c g) lh hd h
end
def Sq (n:Nat)(F:Fr)(T:Act→Prop):Prop:=∀a,Has n a F→T a
theorem Sq.nil (h:St n F A (Q .normal)):Sq n F (wpQuiet P ops A (fun a'=>∀w',A w'→Q .normal a' w') []):=fun a ha w hw=>h a w ha hw
theorem Sq.ev {d:Nat}{op:Op}{ty:TypeId}{pos:String}{after:Array Edge}{rest:List Oper}{T:Act→Prop}(v:Value)(lh:Ev P n F A op ty v)(hd:Nat.ble (d+1) n=true)
 (h:Sq n ((d,v)::F) (wpQuiet P ops A T rest)):
 Sq n F (wpQuiet P ops A T ({dst:=some d,op:=op,type:=ty,pos:=pos,after:=after,guard:=none}::rest)):=by
 intro a ha
 simp only[wpQuiet,Region.wanted,if_true]
 exact⟨v,fun w hw=>lh.quietAt ha hw,h _ (ha.put (Nat.le_of_ble_eq_true hd) v)⟩
theorem Sq.guarded {j:Nat}{want:Bool}{d:Nat}{op:Op}{ty:TypeId}{pos:String}{after:Array Edge}{rest:List Oper}{T:Act→Prop}(c:Bool){dj:Nat}{u:Value}(v:Value)
 (hj:(ops[j]?).bind (·.dst)=some dj) (hl:look F dj=some u) (hu:(c=true→u= .bool want)∧(c=false→u= .bool (!want)∨u=undef))
 (lh:c=true→Ev P n F A op ty v) (hd:Nat.ble (d+1) n=true) (h:Sq n ((d,gv c v)::F) (wpQuiet P ops A T rest)):
 Sq n F (wpQuiet P ops A T ({dst:=some d,op:=op,type:=ty,pos:=pos,after:=after,guard:=some (j,want)}::rest)):=by
 intro a ha
 have lJ:=Nat.le_of_ble_eq_true hd
 have qE:=lI (l:=ops) (o:={dst:=some d,op:=op,type:=ty,pos:=pos,after:=after,guard:=some (j,want)}) rfl hj (ha.slot _ _ hl) hu
 simp only[wpQuiet,qE]
 cases hc:c with
 |true=>
  rw[hc]at h
  simp only[if_true]
  refine⟨v,fun w hw=>(lh hc).quietAt ha hw,?_⟩
  have:=h _ (ha.put lJ (gv true v))
  rwa[an rfl]at this
 |false=>
  rw[hc]at h
  have:=h _ (ha.put lJ (gv false v))
  rw[ag rfl]at this
  simpa using this
section
variable {j:Nat}{d:Nat}{op:Op}{ty:TypeId}{pos:String}{after:Array Edge}{rest:List Oper}{dj:Nat}{T:Act→Prop}(v:Value)
theorem Sq.gt {g:Bool}(hj:(ops[j]?).bind (·.dst)=some dj)(hl:look F dj=some (.bool g))(lh:g=true→Ev P n F A op ty v)(hd:Nat.ble (d+1) n=true)
 (h:Sq n ((d,gv g v)::F) (wpQuiet P ops A T rest)):
 Sq n F (wpQuiet P ops A T ({dst:=some d,op:=op,type:=ty,pos:=pos,after:=after,guard:=some (j,true)}::rest)):=Sq.guarded g v hj hl (NI g) lh hd h
theorem Sq.gf {g:Bool}(hj:(ops[j]?).bind (·.dst)=some dj)(hl:look F dj=some (.bool g))(lh:(!g)=true→Ev P n F A op ty v)(hd:Nat.ble (d+1) n=true)
 (h:Sq n ((d,gv (!g) v)::F) (wpQuiet P ops A T rest)):
 Sq n F (wpQuiet P ops A T ({dst:=some d,op:=op,type:=ty,pos:=pos,after:=after,guard:=some (j,false)}::rest)):=Sq.guarded (!g) v hj hl (NJ g) lh hd h
end
def Ey (A:World→Prop):Prop:=∀w,A w→A {w with drawn:=w.drawn+1}
theorem St.rq {id:Nat}{l:List Oper}(hm:P.follows .mixedOrders=true)(hB:Region.lexB .any l.toArray=true)(hA:Ey A)
 (h:Sq n F (wpQuiet P l.toArray A (fun a'=>∀w',A w'→Q .normal a' w') l)):St n F A ((Code.region id l.toArray true).wp P Q):=
 fun a w ha hw=>wp_region_quiet hm hB (hA w hw) (by simpa using h a ha)
end
abbrev Ro:=Nat→Option Obj
def Ro.le (ρ iK:Ro):Prop:=∀k o,ρ k=some o→iK k=some o
theorem Ro.le_refl (ρ:Ro):ρ.le ρ:=fun _ _ h=>h
theorem Ro.le_trans {a b c:Ro}(h:a.le b)(k:b.le c):a.le c:=fun _ _ x=>k _ _ (h _ _ x)
structure df where
 f:Ro→Prop
 mono:∀ρ iK,Ro.le ρ iK→f ρ→f iK
structure bQ where
 key:Option Nat
 ok:Ro→World→Prop
 loc:∀{ρ iK w w'},Ro.le ρ iK→(∀b,key=some b→w'.heap[b]?=w.heap[b]?)→ok ρ w→ok iK w'
 lt:∀{ρ w b},ok ρ w→key=some b→b<w.heap.size
@[irreducible] def aF (d:df):bQ:=⟨none,fun ρ _=>d.f ρ,fun h _ k=>d.mono _ _ h k,fun _ h=>by simp at h⟩
@[irreducible] def ae (b:Nat)(o:Obj):bQ:=⟨some b,fun _ w=>w.heap[b]?=some o,fun _ h k=>by rw[h b rfl];exact k,fun h hb=>by
 simp only[Option.some.injEq]at hb
 subst hb
 exact(Array.getElem?_eq_some_iff.1 h).1⟩
theorem yK {w w':World}{e:TypeId}{size n:Nat}{v:Value}{cs:List Value}(h:∀b,v.ownBlock=some b→w'.heap[b]?=w.heap[b]?)(k:w.ownsRow 0 e size v n cs):w'.ownsRow 0 e size v n cs:=by
 obtain⟨h1,h2⟩:=k;refine⟨h1,?_⟩
 rcases h2 with h2|⟨g,cap,cur,rfl,h3,h4,h5⟩
 ·exact .inl h2
 ·exact .inr ⟨g,cap,cur,rfl,h3,by rw[h g rfl];exact h4,h5⟩
@[irreducible] def row (v:Value)(e:TypeId)(size n:Nat)(cs:List Value):bQ:=⟨v.ownBlock,fun _ w=>w.ownsRow 0 e size v n cs,fun _ h k=>yK h k,fun h hb=>(h.lt _ hb).2⟩
theorem lj (d:df):(aF d).key=none:=by unfold aF;rfl
theorem dV {d:df}{ρ:Ro}{w:World}:(aF d).ok ρ w↔d.f ρ:=by unfold aF;exact Iff.rfl
theorem fK (b:Nat)(o:Obj):(ae b o).key=some b:=by unfold ae;rfl
theorem eO {b:Nat}{o:Obj}{ρ:Ro}{w:World}:(ae b o).ok ρ w↔w.heap[b]?=some o:=by unfold ae;exact Iff.rfl
theorem ef (v:Value)(e:TypeId)(size n:Nat)(cs:List Value):(row v e size n cs).key=v.ownBlock:=by unfold row;rfl
theorem eP {v:Value}{e:TypeId}{size n:Nat}{cs:List Value}{ρ:Ro}{w:World}:(row v e size n cs).ok ρ w↔w.ownsRow 0 e size v n cs:=by unfold row;exact Iff.rfl
def C7 (E E':bQ):Prop:=∀b,E.key=some b→E'.key≠some b
theorem C7.symm {E E':bQ}(h:C7 E E'):C7 E' E:=fun b h1 h2=>h b h2 h1
def km (H:List bQ)(b:Nat):Prop:=∃E∈H,E.key=some b
structure Ctx where
 w:World
 ρ:Ro
 M:Nat→Prop
 dr:Prop
structure eF (c:Ctx)(H:List bQ)(ρ:Ro)(w:World):Prop where
 os:w.os=c.w.os
 tape:w.tape=c.w.tape∧(c.dr→c.w.drawn≤w.drawn)
 output:w.output=c.w.output
 size:c.w.heap.size≤w.heap.size
 AU:∀k,k<c.w.heap.size→¬c.M k→w.heap[k]?=c.w.heap[k]?
 fits:∀k o,ρ k=some o→w.heap[k]?=some o
 le:Ro.le c.ρ ρ
 new:∀k,k<c.w.heap.size→¬c.M k→ρ k=c.ρ k
 dF:∀E∈H,E.ok ρ w
 own:∀E∈H,∀b,E.key=some b→ρ b=none∧(c.w.heap.size≤b∨c.M b)
 C8:H.Pairwise C7
@[irreducible] def Mm (c:Ctx)(H:List bQ)(w:World):Prop:=∃ρ,eF c H ρ w
theorem Mm.out {c:Ctx}{H:List bQ}{w:World}(h:Mm c H w):∃ρ,eF c H ρ w:=by unfold Mm at h;exact h
theorem Mm.mk {c:Ctx}{H:List bQ}{w:World}{ρ:Ro}(h:eF c H ρ w):Mm c H w:=by unfold Mm;exact⟨ρ,h⟩
theorem eF.lt {c:Ctx}{H:List bQ}{ρ:Ro}{w:World}(h:eF c H ρ w){E:bQ}(hE:E∈H){b:Nat}(hb:E.key=some b):b<w.heap.size:=E.lt (h.dF E hE) hb
theorem eF.Lo {c:Ctx}{H:List bQ}{ρ:Ro}{w:World}(h:eF c H ρ w){b:Nat}{o:Obj}(hb:ρ b=some o):b<w.heap.size:=(Array.getElem?_eq_some_iff.1 (h.fits b o hb)).1
theorem eF.step {c:Ctx}{H1 H2 R:List bQ}{ρ iK:Ro}{w w':World}(h:eF c (H1++R) ρ w)(k:eF ⟨w,ρ,km H1,c.dr⟩ H2 iK w'):eF c (H2++R) iK w':=by
 have hd:=List.pairwise_append.1 h.C8
 have oO:∀E∈R,∀b,E.key=some b→w'.heap[b]?=w.heap[b]?:=by
  intro E hE b hb;refine k.AU b (h.lt (List.mem_append_right _ hE) hb) ?_;rintro ⟨E',AF,iu⟩;exact hd.2.2 E' AF E hE b iu hb
 refine⟨k.os.trans h.os,⟨k.tape.1.trans h.tape.1,fun d=>Nat.le_trans (h.tape.2 d) (k.tape.2 d)⟩,k.output.trans h.output,Nat.le_trans h.size k.size,?_,k.fits,Ro.le_trans h.le k.le,?_,?_,?_,?_⟩
 ·intro i hi hm
  rw[←h.AU i hi hm];refine k.AU i (Nat.lt_of_lt_of_le hi h.size) ?_;rintro ⟨E,hE,hb⟩
  rcases(h.own E (List.mem_append_left _ hE) i hb).2 with h2|h2
  ·omega
  ·exact hm h2
 ·intro i hi hm
  rw[←h.new i hi hm];refine k.new i (Nat.lt_of_lt_of_le hi h.size) ?_;rintro ⟨E,hE,hb⟩
  rcases(h.own E (List.mem_append_left _ hE) i hb).2 with h2|h2
  ·omega
  ·exact hm h2
 ·intro E hE
  rcases List.mem_append.1 hE with hE|hE
  ·exact k.dF E hE
  ·exact E.loc k.le (oO E hE) (h.dF E (List.mem_append_right _ hE))
 ·intro E hE b hb
  rcases List.mem_append.1 hE with hE|hE
  ·refine⟨(k.own E hE b hb).1,?_⟩
   rcases(k.own E hE b hb).2 with h2|⟨E',AF,h2⟩
   ·exact .inl (Nat.le_trans h.size h2)
   ·exact(h.own E' (List.mem_append_left _ AF) b h2).2
  ·have h1:=h.own E (List.mem_append_right _ hE) b hb
   refine⟨?_,h1.2⟩;rw[k.new b (h.lt (List.mem_append_right _ hE) hb)]
   ·exact h1.1
   ·rintro ⟨E',AF,iu⟩
    exact hd.2.2 E' AF E hE b iu hb
 ·refine List.pairwise_append.2 ⟨k.C8,hd.2.1,?_⟩
  intro E hE E' AF b hb iu
  rcases(k.own E hE b hb).2 with h2|⟨Wo,AV,h2⟩
  ·have:=h.lt (List.mem_append_right _ AF) iu
   exact absurd this (by simpa using h2)
  ·exact hd.2.2 Wo AV E' AF b h2 iu
theorem eF.perm {c:Ctx}{H H':List bQ}{ρ:Ro}{w:World}(h:eF c H ρ w)(hp:H.Perm H'):eF c H' ρ w:=
 ⟨h.os,h.tape,h.output,h.size,h.AU,h.fits,h.le,h.new,fun E hE=>h.dF E (hp.mem_iff.2 hE),fun E hE=>h.own E (hp.mem_iff.2 hE),
  (hp.pairwise_iff fun h=>h.symm).1 h.C8⟩
theorem eF.drop {c:Ctx}{E:bQ}{H:List bQ}{ρ:Ro}{w:World}(h:eF c (E::H) ρ w):eF c H ρ w:=
 ⟨h.os,h.tape,h.output,h.size,h.AU,h.fits,h.le,h.new,fun E hE=>h.dF E (List.mem_cons_of_mem _ hE),fun E hE=>h.own E (List.mem_cons_of_mem _ hE),(List.pairwise_cons.1 h.C8).2⟩
theorem eF.fact {c:Ctx}{H:List bQ}{ρ:Ro}{w:World}(h:eF c H ρ w)(d:df)(hd:d.f ρ):eF c (aF d::H) ρ w:=
 ⟨h.os,h.tape,h.output,h.size,h.AU,h.fits,h.le,h.new,fun E hE=>by
  rcases List.mem_cons.1 hE with rfl|hE
  ·exact dV.2 hd
  ·exact h.dF E hE,
  fun E hE b hb=>by
   rcases List.mem_cons.1 hE with rfl|hE
   ·rw[lj]at hb;cases hb
   ·exact h.own E hE b hb,
  List.pairwise_cons.2 ⟨fun E _ b hb=>(by rw[lj]at hb;cases hb),h.C8⟩⟩
theorem eF.drawn {c:Ctx}{H:List bQ}{ρ:Ro}{w:World}(h:eF c H ρ w):eF c H ρ {w with drawn:=w.drawn+1}:=
 ⟨h.os,⟨h.tape.1,fun d=>Nat.le_succ_of_le (h.tape.2 d)⟩,h.output,h.size,h.AU,h.fits,h.le,h.new,fun E hE=>E.loc (w:=w) (Ro.le_refl _) (fun _ _=>rfl) (h.dF E hE),h.own,h.C8⟩
theorem Mm.drawn (c:Ctx)(H:List bQ):Ey (Mm c H):=fun _ h=>let⟨_,k⟩:=h.out;Mm.mk k.drawn
def Start (H:List bQ)(ρ:Ro)(w:World):Prop:=eF ⟨w,ρ,km H,True⟩ H ρ w
theorem eF.start {c:Ctx}{H R:List bQ}{ρ:Ro}{w:World}(h:eF c (H++R) ρ w):Start H ρ w:=
 ⟨rfl,⟨rfl,fun _=>Nat.le_refl _⟩,rfl,Nat.le_refl _,fun _ _ _=>rfl,h.fits,Ro.le_refl _,fun _ _ _=>rfl,fun E hE=>h.dF E (List.mem_append_left _ hE),
  fun E hE b hb=>⟨(h.own E (List.mem_append_left _ hE) b hb).1,.inr ⟨E,hE,hb⟩⟩,(List.pairwise_append.1 h.C8).1⟩
def fC (P:Program)(f:FuncId)(args:Array Value)(pre:List bQ)(post:Value→List bQ→Prop):Prop:=
 ∀w ρ,Start pre ρ w→Calls P f args w fun e w'=>∃v H',e= .returned v∧post v H'∧Mm ⟨w,ρ,km pre,True⟩ H' w'
def DJ (dr:Prop)(P:Program)(f:FuncId)(args:Array Value)(pre:List bQ)(post:Value→List bQ→Prop):Prop:=
 ∀w ρ,Start pre ρ w→Calls P f args w fun e w'=>∃v H',e= .returned v∧post v H'∧Mm ⟨w,ρ,km pre,dr⟩ H' w'
theorem eF.dr {w0:World}{QL:Ro}{M:Nat→Prop}{d d':Prop}{H:List bQ}{ρ:Ro}{w:World}(h:eF ⟨w0,QL,M,d⟩ H ρ w)(hd:d'→d):eF ⟨w0,QL,M,d'⟩ H ρ w:=
 ⟨h.os,⟨h.tape.1,fun q=>h.tape.2 (hd q)⟩,h.output,h.size,h.AU,h.fits,h.le,h.new,h.dF,h.own,h.C8⟩
theorem Mm.dr {w0:World}{QL:Ro}{M:Nat→Prop}{d d':Prop}{H:List bQ}{w:World}(h:Mm ⟨w0,QL,M,d⟩ H w)(hd:d'→d):Mm ⟨w0,QL,M,d'⟩ H w:=let⟨_,k⟩:=h.out;Mm.mk (k.dr hd)
theorem fC.gen {P:Program}{f:FuncId}{args:Array Value}{pre:List bQ}{post:Value→List bQ→Prop}(h:fC P f args pre post):DJ True P f args pre post:=h
theorem DJ.dr {d d':Prop}{P:Program}{f:FuncId}{args:Array Value}{pre:List bQ}{post:Value→List bQ→Prop}(h:DJ d P f args pre post)(hd:d'→d):DJ d' P f args pre post:=
 fun w ρ hs=>(h w ρ hs).mono fun _ _ ⟨v,H',h1,h2,h3⟩=>⟨v,H',h1,h2,h3.dr hd⟩
theorem DJ.mono {d:Prop}{P:Program}{f:FuncId}{args:Array Value}{pre:List bQ}{post yL:Value→List bQ→Prop}(h:DJ d P f args pre post)(hp:∀v H,post v H→yL v H):DJ d P f args pre yL:=
 fun w ρ hs=>(h w ρ hs).mono fun _ _ ⟨v,H',h1,h2,h3⟩=>⟨v,H',h1,hp v H' h2,h3⟩
abbrev DK:=DJ False
def gj (P:Program)(f:FuncId)(args:Array Value)(ds:List df)(v:Value):Prop:=DK P f args (ds.map aF) fun u _=>u=v
def cz (P:Program)(f:FuncId)(args:Array Value)(ds:List df)(v:Value):Prop:=fC P f args (ds.map aF) fun u _=>u=v
theorem fC.mono {P:Program}{f:FuncId}{args:Array Value}{pre:List bQ}{post yL:Value→List bQ→Prop}(h:fC P f args pre post)(hp:∀v H,post v H→yL v H):fC P f args pre yL:=
 fun w ρ hs=>(h w ρ hs).mono fun _ _ ⟨v,H',h1,h2,h3⟩=>⟨v,H',h1,hp v H' h2,h3⟩
theorem eF.yM {c:Ctx}{H:List bQ}{ρ:Ro}{w:World}(h:eF c H ρ w):∀ds:List df,(∀d∈ds,d.f ρ)→eF c (ds.map aF++H) ρ w
 | [],_=>h
 |d::ds,hd=>(h.yM ds fun d' h'=>hd d' (List.mem_cons_of_mem _ h')).fact d (hd d (List.mem_cons_self ..))
section classes
class jW (d:df)(H:List bQ):Prop where
 mem:aF d∈H
instance (priority:=high) jW.here (d:df)(H:List bQ):jW d (aF d::H):=⟨List.mem_cons_self ..⟩
instance jW.there (d:df)(E:bQ)(H:List bQ)[h:jW d H]:jW d (E::H):=⟨List.mem_cons_of_mem _ h.mem⟩
class oP (ds:List df)(H:List bQ):Prop where
 mem:∀d∈ds,aF d∈H
instance oP.nil (H:List bQ):oP [] H:=⟨fun _ h=>by simp at h⟩
instance oP.cons (d:df)(ds:List df)(H:List bQ)[h:jW d H][k:oP ds H]:oP (d::ds) H:=
 ⟨fun d' h'=>by rcases List.mem_cons.1 h' with rfl|h';exact h.mem;exact k.mem d' h'⟩
class jm (b:Nat)(H:List bQ)(o:outParam Obj):Prop where
 mem:ae b o∈H
instance (priority:=high) jm.here (b:Nat)(o:Obj)(H:List bQ):jm b (ae b o::H) o:=⟨List.mem_cons_self ..⟩
instance jm.there (b:Nat)(o:Obj)(E:bQ)(H:List bQ)[h:jm b H o]:jm b (E::H) o:=⟨List.mem_cons_of_mem _ h.mem⟩
class lK (b:Nat)(H:List bQ)(o:outParam Obj)(R:outParam (List bQ)):Prop where
 perm:H.Perm (ae b o::R)
instance (priority:=high) lK.here (b:Nat)(o:Obj)(H:List bQ):lK b (ae b o::H) o H:=⟨.refl _⟩
instance lK.there (b:Nat)(o:Obj)(E:bQ)(H R:List bQ)[h:lK b H o R]:lK b (E::H) o (E::R):=⟨(h.perm.cons E).trans (.swap ..)⟩
class jR (v:Value)(H:List bQ)(e:outParam TypeId)(size n:outParam Nat)(cs:outParam (List Value))(R:outParam (List bQ)):Prop where
 perm:H.Perm (row v e size n cs::R)
instance (priority:=high) jR.here (v:Value)(e:TypeId)(size n:Nat)(cs:List Value)(H:List bQ):jR v (row v e size n cs::H) e size n cs H:=⟨.refl _⟩
instance jR.there (v:Value)(e:TypeId)(size n:Nat)(cs:List Value)(E:bQ)(H R:List bQ)[h:jR v H e size n cs R]:jR v (E::H) e size n cs (E::R):=⟨(h.perm.cons E).trans (.swap ..)⟩
class uz (E:bQ)(H:List bQ)(R:outParam (List bQ)):Prop where
 perm:H.Perm (E::R)
instance (priority:=high) uz.here (E:bQ)(H:List bQ):uz E (E::H) H:=⟨.refl _⟩
instance uz.there (E E':bQ)(H R:List bQ)[h:uz E H R]:uz E (E'::H) (E'::R):=⟨(h.perm.cons E').trans (.swap ..)⟩
class jS (L H:List bQ)(R:outParam (List bQ)):Prop where
 perm:H.Perm (L++R)
instance jS.nil (H:List bQ):jS [] H H:=⟨.refl _⟩
instance jS.cons (E:bQ)(L H R R':List bQ)[h:uz E H R][k:jS L R R']:jS (E::L) H R':=⟨h.perm.trans (k.perm.cons E)⟩
end classes
theorem Mm.take {c:Ctx}{L H R:List bQ}{w:World}[t:jS L H R](h:Mm c H w):Mm c (L++R) w:=let⟨_,k⟩:=h.out;Mm.mk (k.perm t.perm)
theorem eF.left {c:Ctx}{L R:List bQ}{ρ:Ro}{w:World}(h:eF c (L++R) ρ w):eF c L ρ w:=by
 induction R generalizing L with
 |nil=>simpa using h
 |cons E R ih=>exact ih (h.perm List.perm_middle).drop
theorem Mm.sub {c:Ctx}{L H R:List bQ}{w:World}[t:jS L H R](h:Mm c H w):Mm c L w:=let⟨_,k⟩:=h.out;Mm.mk (k.perm t.perm).left
theorem Mm.fact {c:Ctx}{H:List bQ}{w:World}(h:Mm c H w)(d:df)(hd:∀ρ,eF c H ρ w→d.f ρ):Mm c (aF d::H) w:=let⟨_,k⟩:=h.out;Mm.mk (k.fact d (hd _ k))
section
variable {P:Program}{n:Nat}{F:Fr}{c:Ctx}{H R:List bQ}{Q:Exit→Act→World→Prop}{ops:Array Oper}{T:Act→World→Prop}
theorem St.fact (d:df)(hd:∀ρ w,eF c H ρ w→d.f ρ)(h:St n F (Mm c (aF d::H)) T):St n F (Mm c H) T:=
 h.sL fun _ hw=>hw.fact d fun ρ k=>hd ρ _ k
theorem St.sub (L:List bQ)[t:jS L H R](h:St n F (Mm c L) T):St n F (Mm c H) T:=h.sL fun _ hw=>hw.sub
theorem St.take (L:List bQ)[t:jS L H R](h:St n F (Mm c (L++R)) T):St n F (Mm c H) T:=h.sL fun _ hw=>hw.take
theorem St.aJ (h:St n F (Mm c R) T):St n F (Mm c ([]++R)) T:=h
theorem St.bK {a:bQ}(h:St n F (Mm c (a::R)) T):St n F (Mm c ([a]++R)) T:=h
theorem St.ca {a b:bQ}(h:St n F (Mm c (a::b::R)) T):St n F (Mm c ([a,b]++R)) T:=h
theorem St.jX {a b d:bQ}(h:St n F (Mm c (a::b::d::R)) T):St n F (Mm c ([a,b,d]++R)) T:=h
theorem St.NK {a b d e:bQ}(h:St n F (Mm c (a::b::d::e::R)) T):St n F (Mm c ([a,b,d,e]++R)) T:=h
def Do (P:Program)(n:Nat)(F:Fr)(c:Ctx)(H:List bQ)(op:Op)(ty:TypeId)(K:Value→List bQ→Prop):Prop:=
 ∀a w ρ,Has n a F→eF c H ρ w→∃v w' iK H',(execOp a.eval (bare op ty)).run P w= .ok v w'∧(∃u,(v= .value u∨(v= .skip∧u=undef))∧K u H')∧eF c H' iK w'
theorem Do.wp {op:Op}{ty:TypeId}{K:Value→List bQ→Prop}(h:Do P n F c H op ty K){d:Option Tmp}{pos:String}{after:Array Edge}{g:Option (Nat×Bool)}{a:Act}{w:World}
 (ha:Has n a F) (hw:Mm c H w) {J:Act→World→Prop} (hk:∀u H' w',K u H'→Mm c H' w'→J (a.put d u) w'):
 ({dst:=d,op:=op,type:=ty,pos:=pos,after:=after,guard:=g}:Oper).wp P a w J Q:=by
 obtain⟨ρ,hm⟩:=hw.out;obtain⟨v,w',iK,H',hr,⟨u,hv,hK⟩,jC⟩:=h a w ρ ha hm;unfold Oper.wp Oper.upon;rw[fk]
 simp only at hr⊢
 rw[hr]
 rcases hv with rfl|⟨rfl,rfl⟩
 ·exact hk _ _ _ hK (Mm.mk jC)
 ·exact hk _ _ _ hK (Mm.mk jC)
theorem St.Eg {d:Nat}{op:Op}{ty:TypeId}{pos:String}{after:Array Edge}{rest:List Oper}{K:Value→List bQ→Prop}(lh:Do P n F c H op ty K)(hd:Nat.ble (d+1) n=true)
 (h:∀v H',K v H'→St n ((d,v)::F) (Mm c H') (wpList P ops Q rest)):
 St n F (Mm c H) (wpList P ops Q ({dst:=some d,op:=op,type:=ty,pos:=pos,after:=after,guard:=none}::rest)):=
 fun _ _ ha hw=>iW rfl (lh.wp ha hw fun u H' w' hK yJ=>h u H' hK _ w' (ha.put (Nat.le_of_ble_eq_true hd) u) yJ)
theorem St.lk {op:Op}{ty:TypeId}{pos:String}{after:Array Edge}{rest:List Oper}{K:Value→List bQ→Prop}(lh:Do P n F c H op ty K)
 (h:∀v H',K v H'→St n F (Mm c H') (wpList P ops Q rest)):
 St n F (Mm c H) (wpList P ops Q ({dst:=none,op:=op,type:=ty,pos:=pos,after:=after,guard:=none}::rest)):=
 fun _ _ ha hw=>iW rfl (lh.wp ha hw fun u H' w' hK yJ=>h u H' hK _ w' (ha.Ex u) yJ)
end
def qF:Nat→List Value→Fr
 |_,[]=>[]
 |k,v::vs=>(k,v)::qF (k+1) vs
theorem qG {t:Nat}{v:Value}:∀(l:List Value) (i:Nat),look (qF i l) t=some v→i≤t∧l[t-i]?=some v
 | [],i,h=>by simp[qF,look]at h
 |x::l,i,h=>by
  simp only[qF,look]at h
  cases hb:Nat.beq t i with
  |true=>
   have e:t=i:=Nat.eq_of_beq_eq_true hb
   subst e
   simp only[hb,cond_true,Option.some.injEq]at h
   subst h
   simp
  |false=>
   have e:t≠i:=Nat.ne_of_beq_eq_false hb
   simp only[hb,cond_false]at h
   obtain⟨h1,h2⟩:=qG l (i+1) h;refine⟨by omega,?_⟩
   have:t-i=(t-(i+1))+1:=by omega
   rw[this,List.getElem?_cons_succ];exact h2
theorem fC.body {P:Program}{f:FuncId}{fn:Func}{cd:Code}{args:List Value}{pre:List bQ}{post:Value→List bQ→Prop}(n:Nat)
 (hf:P.funcs[f]?=some fn) (hb:fn.body=some cd) (hn:fn.ntmps=n) (iz:Nat.ble args.length n=true)
 (h:∀c:Ctx,St n (qF 0 args) (Mm c pre) (cd.wp P (bodyPost P fn fun e w'=>∃v H',e= .returned v∧post v H'∧Mm c H' w'))):
 fC P f args.toArray pre post:=by
 intro w ρ hs;refine calls_of_wp hf hb (h ⟨w,ρ,km pre,True⟩ _ w ⟨?_,rfl,?_⟩ (Mm.mk hs))
 ·have:=Nat.le_of_ble_eq_true iz
  simp[hn]
  omega
 ·intro t v ht
  obtain⟨_,h2⟩:=qG args 0 ht
  simp only[Nat.sub_zero]at h2
  have jA:t<args.length:=(List.getElem?_eq_some_iff.1 h2).1
  simp only[List.size_toArray,Array.getElem?_append,jA,if_true]
  simpa using h2
theorem DK.body {P:Program}{f:FuncId}{fn:Func}{cd:Code}{args:List Value}{pre:List bQ}{post:Value→List bQ→Prop}(n:Nat)
 (hf:P.funcs[f]?=some fn) (hb:fn.body=some cd) (hn:fn.ntmps=n) (iz:Nat.ble args.length n=true)
 (h:∀c:Ctx,¬c.dr→St n (qF 0 args) (Mm c pre) (cd.wp P (bodyPost P fn fun e w'=>∃v H',e= .returned v∧post v H'∧Mm c H' w'))):
 DK P f args.toArray pre post:=by
 intro w ρ hs;refine calls_of_wp hf hb (h ⟨w,ρ,km pre,False⟩ (fun h=>h) _ w ⟨?_,rfl,?_⟩ (Mm.mk (hs.dr fun h=>h.elim)))
 ·have:=Nat.le_of_ble_eq_true iz
  simp[hn]
  omega
 ·intro t v ht
  obtain⟨_,h2⟩:=qG args 0 ht
  simp only[Nat.sub_zero]at h2
  have jA:t<args.length:=(List.getElem?_eq_some_iff.1 h2).1
  simp only[List.size_toArray,Array.getElem?_append,jA,if_true]
  simpa using h2
theorem gj.body {P:Program}{f:FuncId}{fn:Func}{cd:Code}{args:List Value}{u:Value}{ds:List df}(n:Nat)
 (hf:P.funcs[f]?=some fn) (hb:fn.body=some cd) (hn:fn.ntmps=n) (iz:Nat.ble args.length n=true)
 (h:∀c:Ctx,¬c.dr→St n (qF 0 args) (Mm c (ds.map aF)) (cd.wp P (bodyPost P fn fun e w'=>∃v H',e= .returned v∧v=u∧Mm c H' w'))):gj P f args.toArray ds u:=DK.body n hf hb hn iz h
theorem cz.kI {P:Program}{f:FuncId}{fn:Func}{cd:Code}{args:List Value}{u:Value}(n:Nat)
 (hf:P.funcs[f]?=some fn) (hb:fn.body=some cd) (hn:fn.ntmps=n) (iz:Nat.ble args.length n=true)
 (h:∀c:Ctx,St n (qF 0 args) (Mm c []) (cd.wp P (bodyPost P fn fun e w'=>∃v H',e= .returned v∧v=u∧Mm c H' w'))):cz P f args.toArray [] u:=fC.body n hf hb hn iz h
theorem cz.iL {P:Program}{f:FuncId}{fn:Func}{cd:Code}{args:List Value}{u:Value}{d1:df}(n:Nat)
 (hf:P.funcs[f]?=some fn) (hb:fn.body=some cd) (hn:fn.ntmps=n) (iz:Nat.ble args.length n=true)
 (h:∀c:Ctx,St n (qF 0 args) (Mm c [aF d1]) (cd.wp P (bodyPost P fn fun e w'=>∃v H',e= .returned v∧v=u∧Mm c H' w'))):cz P f args.toArray [d1] u:=fC.body n hf hb hn iz h
theorem cz.o7 {P:Program}{f:FuncId}{fn:Func}{cd:Code}{args:List Value}{u:Value}{d1 d2:df}(n:Nat)
 (hf:P.funcs[f]?=some fn) (hb:fn.body=some cd) (hn:fn.ntmps=n) (iz:Nat.ble args.length n=true)
 (h:∀c:Ctx,St n (qF 0 args) (Mm c [aF d1,aF d2]) (cd.wp P (bodyPost P fn fun e w'=>∃v H',e= .returned v∧v=u∧Mm c H' w'))):cz P f args.toArray [d1,d2] u:=fC.body n hf hb hn iz h
theorem cz.Ez {P:Program}{f:FuncId}{fn:Func}{cd:Code}{args:List Value}{u:Value}{d1 d2 d3:df}(n:Nat)
 (hf:P.funcs[f]?=some fn) (hb:fn.body=some cd) (hn:fn.ntmps=n) (iz:Nat.ble args.length n=true)
 (h:∀c:Ctx,St n (qF 0 args) (Mm c [aF d1,aF d2,aF d3]) (cd.wp P (bodyPost P fn fun e w'=>∃v H',e= .returned v∧v=u∧Mm c H' w'))):cz P f args.toArray [d1,d2,d3] u:=fC.body n hf hb hn iz h
theorem cz.Lp {P:Program}{f:FuncId}{fn:Func}{cd:Code}{args:List Value}{u:Value}{d1 d2 d3 d4:df}(n:Nat)
 (hf:P.funcs[f]?=some fn) (hb:fn.body=some cd) (hn:fn.ntmps=n) (iz:Nat.ble args.length n=true)
 (h:∀c:Ctx,St n (qF 0 args) (Mm c [aF d1,aF d2,aF d3,aF d4]) (cd.wp P (bodyPost P fn fun e w'=>∃v H',e= .returned v∧v=u∧Mm c H' w'))):cz P f args.toArray [d1,d2,d3,d4] u:=fC.body n hf hb hn iz h
theorem Sub.nil {F:Fr}:Sub [] F:=trivial
theorem Sub.cons {F F':Fr}{k:Nat}{v:Value}(h:J.look F k=some v)(h':Sub F' F):Sub ((k,v)::F') F:=⟨h,h'⟩
def RV (P:Program)(F:Fr)(H:List bQ):ResultVar→Value→Prop
 | .tmp t,v=>look F t=some v
 | .cell t ty,v=>∃b C e fr,look F t=some (.pointer (some ⟨b,0,none⟩))∧ae b (.cells C e fr)∈H∧
  ((∃fs,P.underlying ty=some (.struct fs))∧(P.info? ty).map (·.size)=some C.size∧v= .agg C∨
   (match P.underlying ty with|some (.struct _)|some (.array _ _)|none=>False|some _=>True)∧C[0]?=some v)
theorem cW {w:World}{b off:Nat}{C:Array Value}{e:TypeId}{fr:Nat×Nat}(h:w.heap[b]?=some (.cells C e fr)):w.cell? ⟨b,off,none⟩=C[off]?:=by
 simp[World.cell?,h]
theorem eZ {P:Program}{w:World}{ty:TypeId}{b off:Nat}{L:List Value}{d:TypeDesc}(hd:P.underlying ty=some d)(hk:(match d with| .struct _| .array _ _=>True|_=>False))
 (hs:(P.info? ty).map (·.size)=some L.length) (hL:∀j v,L[j]?=some v→w.cell? ⟨b,off+j,none⟩=some v):(loadVar ty ⟨b,off,none⟩).run P w= .ok (.agg L.toArray) w:=by
 obtain⟨i,hi,fD⟩:=Option.map_eq_some_iff.1 hs
 have h1:=run_loadCells_list (P:=P) w ⟨b,off,none⟩ L (fun j v h=>by rw[Addr.add_lit];exact hL j v h)
 have h2:(isAgg ty).run P w= .ok true w:=by
  cases d<;>simp at hk<;>simp[isAgg,run_underlying hd]
 simp[loadVar,h2,sizeOf,typeInfo,hi,fD,h1]
theorem fN {P:Program}{w:World}{ty:TypeId}{a:Addr}{v:Value}{d:TypeDesc}(hd:P.underlying ty=some d)(hk:(match d with| .struct _| .array _ _=>False|_=>True))
 (hv:w.cell? a=some v):(loadVar ty a).run P w= .ok v w:=by
 have h2:(isAgg ty).run P w= .ok false w:=by
  cases d<;>simp at hk<;>simp[isAgg,run_underlying hd]
 simp[loadVar,h2,hv]
def yN (a:Act):ResultVar→Sem Value
 | .tmp t=>pure (a.tmps.getD t undef)
 | .cell t ty=>do loadVar ty (←asAddr (a.tmps.getD t undef))
theorem RV.run {P:Program}{n:Nat}{F:Fr}{H:List bQ}{r:ResultVar}{v:Value}(h:RV P F H r v){a:Act}(ha:Has n a F){c:Ctx}{w:World}(hw:Mm c H w):
 (yN a r).run P w= .ok v w:=by
 obtain⟨ρ,hm⟩:=hw.out
 cases r with
 |tmp t=>simp[RV]at h;simp[yN,Array.getD_eq_getD_getElem?,ha.slot _ _ h]
 |cell t ty=>
  obtain⟨b,C,e,fr,h1,h2,h3⟩:=h
  have hb:=eO.1 (hm.dF _ h2)
  have hc:∀off,w.cell? ⟨b,off,none⟩=C[off]?:=fun off=>cW hb
  have ht:=ha.slot _ _ h1
  simp only[yN,Array.getD_eq_getD_getElem?,ht,Option.getD_some,asAddr,Sem.run_bind,Sem.run_pure,Result.andThen_ok]
  rcases h3 with⟨⟨fs,h4⟩,h5,rfl⟩|⟨h4,h5⟩
  ·have:=eZ (P:=P) (w:=w) (ty:=ty) (b:=b) (off:=0) (L:=C.toList) h4 trivial (by simpa using h5) (fun j v hj=>by rw[hc,Nat.zero_add];simpa using hj)
   simpa using this
  ·cases hd:P.underlying ty with
   |none=>rw[hd]at h4;exact h4.elim
   |some d=>rw[hd]at h4;exact fN hd (by cases d<;>simp_all) (by rw[hc];exact h5)
def Lq (P:Program)(F:Fr)(H:List bQ):List ResultVar→List Value→Prop
 | [],[]=>True
 |r::rs,v::vs=>RV P F H r v∧Lq P F H rs vs
 |_,_=>False
theorem Lq.run {P:Program}{n:Nat}{F:Fr}{H:List bQ}{a:Act}(ha:Has n a F){c:Ctx}{w:World}(hw:Mm c H w):∀{rs:List ResultVar} {vs:List Value},Lq P F H rs vs→
 (rs.mapM (yN a)).run P w= .ok vs w
 | [],[],_=>by simp
 |r::rs,v::vs,h=>by
  have h1:=RV.run h.1 ha hw
  have h2:=Lq.run ha hw h.2
  simp only[List.mapM_cons,Sem.run_bind,h1,Result.andThen_ok,h2,Sem.run_pure]
def DL:List Value→Value
 | [v]=>v
 |vs=> .tuple vs.toArray
theorem AW (fn:Func)(a:Act):results fn a.tmps=(fn.results.mapM (yN a)>>=fun vs=>pure (if h:vs.size=1 then vs[0]else .tuple vs)):=by
 unfold results
 congr 2
theorem St.QM {P:Program}{n:Nat}{F:Fr}{c:Ctx}{H:List bQ}{fn:Func}{post:Value→List bQ→Prop}{rl:List ResultVar}(vs:List Value)(H':List bQ)
 (hr:fn.results=rl.toArray) (hv:Lq P F H rl vs) (hp:post (DL vs) H') (hH:∀w,Mm c H w→Mm c H' w):
 St n F (Mm c H) (bodyPost P fn (fun e w'=>∃v H',e= .returned v∧post v H'∧Mm c H' w') .ret):=by
 intro a w ha hw;refine⟨ha.defers,_,?_,_,H',rfl,hp,hH w hw⟩
 have h2:=Lq.run ha hw hv
 rw[AW,hr]
 simp only[List.mapM_toArray,Sem.run_bind,Sem.run_map,h2,Result.andThen_ok,Sem.run_pure]
 congr 1
 cases vs with
 |nil=>rfl
 |cons v vs=>cases vs<;>rfl
theorem St.j0 {P:Program}{n:Nat}{F:Fr}{c:Ctx}{H:List bQ}{fn:Func}{R:Ending→World→Prop}
 (h:St n F (Mm c H) (bodyPost P fn R .ret)):St n F (Mm c H) (bodyPost P fn R .normal):=h
abbrev cV:=List UInt8
abbrev sv (l:cV):Value:= .string ⟨l.toArray⟩
abbrev iv (n:Int):Value:= .int .i64 n
structure Rp (α:Type) where
 size:Nat
 pos:0<size
 cells:α→List Value
 wf:α→Prop
 len:∀x,(cells x).length=size
 one:∀x,∀u∈cells x,u.oneCell'=true
def bF (n:Int):Prop:= -9223372036854775808≤n∧n≤9223372036854775807
def aK:Rp Int:=⟨1,by decide,fun x=>[.int .i64 x],bF,fun _=>rfl,fun _ u h=>by simp at h;subst h;rfl⟩
def ff:Rp cV:=⟨1,by decide,fun x=>[sv x],fun x=>x.length≤140737488351232,fun _=>rfl,fun _ u h=>by simp at h;subst h;rfl⟩
def eB:Rp Bool:=⟨1,by decide,fun x=>[.bool x],fun _=>True,fun _=>rfl,fun _ u h=>by simp at h;subst h;rfl⟩
def cK:Rp {v:Value//v.oneCell'=true}:=⟨1,by decide,fun x=>[x.1],fun _=>True,fun _=>rfl,fun x u h=>by simp at h;subst h;exact x.2⟩
def rows {α:Type}(R:Rp α)(xs:List α):List Value:=xs.flatMap R.cells
theorem dw {α:Type}(R:Rp α)(xs:List α):(rows R xs).length=xs.length*R.size:=by
 induction xs with
 |nil=>simp[rows]
 |cons x xs ih=>simp only[rows,List.flatMap_cons,List.length_append,R.len,List.length_cons,Nat.add_mul]at ih⊢;omega
theorem jn {α:Type}(R:Rp α):∀(xs:List α) (k j:Nat) (x:α),xs[k]?=some x→j<R.size→(rows R xs)[k*R.size+j]?=(R.cells x)[j]?
 | [],_,_,_,h,_=>by simp at h
 |y::xs,0,j,x,h,hj=>by
  simp only[List.getElem?_cons_zero,Option.some.injEq]at h
  subst h
  simp only[rows,List.flatMap_cons,Nat.zero_mul,Nat.zero_add]
  rw[List.getElem?_append_left (by rw[R.len];exact hj)]
 |y::xs,k+1,j,x,h,hj=>by
  simp only[List.getElem?_cons_succ]at h
  have ih:=jn R xs k j x h hj
  simp only[rows,List.flatMap_cons]at ih⊢
  rw[List.getElem?_append_right (by rw[R.len,Nat.add_mul];omega),R.len]
  have e:(k+1)*R.size+j-R.size=k*R.size+j:=by rw[Nat.add_mul];omega
  rw[e];exact ih
def sl {α:Type}(R:Rp α)(v:Value)(xs:List α):df where
 f ρ:=∃a cap,v= .slice a xs.length cap∧xs.length≤cap∧cap≤maxLen∧(∀x∈xs,R.wf x)∧
  (xs=[]∨∃b off C e fr,a=some ⟨b,off,none⟩∧ρ b=some (.cells C e fr)∧∀j u,(rows R xs)[j]?=some u→C[off+j]?=some u)
 mono ρ iK h:=by
  rintro ⟨a,cap,h1,h2,h3,h4,h5⟩;refine⟨a,cap,h1,h2,h3,h4,?_⟩
  rcases h5 with h5|⟨b,off,C,e,fr,h6,h7,h8⟩
  ·exact .inl h5
  ·exact .inr ⟨b,off,C,e,fr,h6,h _ _ h7,h8⟩
class sM (v:Value)(H:List bQ)(α:outParam Type)(R:outParam (Rp α))(xs:outParam (List α)):Prop where
 mem:aF (sl R v xs)∈H
instance (priority:=high) sM.here {α:Type}(v:Value)(R:Rp α)(xs:List α)(H:List bQ):sM v (aF (sl R v xs)::H) α R xs:=⟨List.mem_cons_self ..⟩
instance sM.there {α:Type}(v:Value)(R:Rp α)(xs:List α)(E:bQ)(H:List bQ)[h:sM v H α R xs]:sM v (E::H) α R xs:=⟨List.mem_cons_of_mem _ h.mem⟩
class en {α:Type}(R:Rp α)(x:α)(L:outParam (List Value)):Prop where
 eq:R.cells x=L
@[irreducible] def e9 (v:Value)(size k off:Nat):Value:=
 match v with
 | .slice (some a) _ _=> .pointer (some (a.add (k*size+off)))
 |_=>undef
theorem eQ (b o n c size k off:Nat):e9 (.slice (some ⟨b,o,none⟩) n c) size k off= .pointer (some ⟨b,o+(k*size+off),none⟩):=by
 unfold e9;simp only[Addr.add_lit]
section
variable {P:Program}{n:Nat}{F:Fr}{A:World→Prop}{c:Ctx}{H:List bQ}{ty:TypeId}{x y z:Operand}{v:Value}
theorem Ev.of_run {op:Op}(h:∀a w,Has n a F→A w→(execOp a.eval (bare op ty)).run P w= .ok (.value v) w):Ev P n F A op ty v:=
 fun a w ha hw=>by rw[h a w ha hw];exact⟨rfl,rfl⟩
theorem Ev.move (hx:aL F x v):Ev P n F A (.move x) ty v:= .of_run fun a w ha _=>by simp[execOp,hx.eval ha]
theorem Ev.assign (hx:aL F x v):Ev P n F A (.assign x) ty v:= .of_run fun a w ha _=>by simp[execOp,hx.eval ha]
theorem Ev.and {p q:Bool}(hx:aL F x (.bool p))(hy:p=true→aL F y (.bool q)):Ev P n F A (.pick x y (.const (.bool false))) ty (.bool (p&&q)):= .of_run fun a w ha _=>by
 cases p with
 |true=>simp only[execOp,hx.eval ha,(hy rfl).eval ha];simp[asBool]
 |false=>simp only[execOp,hx.eval ha];simp[asBool,Act.eval]
theorem Ev.or {p q:Bool}(hx:aL F x (.bool p))(hy:(!p)=true→aL F y (.bool q)):Ev P n F A (.pick x (.const (.bool true)) y) ty (.bool (p||q)):= .of_run fun a w ha _=>by
 cases p with
 |true=>simp only[execOp,hx.eval ha];simp[asBool,Act.eval]
 |false=>simp only[execOp,hx.eval ha,(hy rfl).eval ha];simp[asBool]
theorem Ev.not {p:Bool}(hx:aL F x (.bool p)){t:TypeId}:Ev P n F A (.unOp .not t x) ty (.bool (!p)):= .of_run fun a w ha _=>by
 simp[execOp,hx.eval ha,Op.unary]
section ints
variable {k:IntKind}{i j:Int}{t u:TypeId}
theorem Ev.lss (hx:aL F x (.int k i))(hy:aL F y (.int k j)):Ev P n F A (.binOp .lss t x y u) ty (.bool (decide (i<j))):= .of_run fun a w ha _=>by simp only[execOp,hx.eval ha,hy.eval ha];simp[go_sem]
theorem Ev.leq (hx:aL F x (.int k i))(hy:aL F y (.int k j)):Ev P n F A (.binOp .leq t x y u) ty (.bool (decide (i≤j))):= .of_run fun a w ha _=>by simp only[execOp,hx.eval ha,hy.eval ha];simp[go_sem]
theorem Ev.gtr (hx:aL F x (.int k i))(hy:aL F y (.int k j)):Ev P n F A (.binOp .gtr t x y u) ty (.bool (decide (j<i))):= .of_run fun a w ha _=>by simp only[execOp,hx.eval ha,hy.eval ha];simp[go_sem]
theorem Ev.geq (hx:aL F x (.int k i))(hy:aL F y (.int k j)):Ev P n F A (.binOp .geq t x y u) ty (.bool (decide (j≤i))):= .of_run fun a w ha _=>by simp only[execOp,hx.eval ha,hy.eval ha];simp[go_sem]
theorem Ev.eql (hx:aL F x (.int k i))(hy:aL F y (.int k j)):Ev P n F A (.binOp .eql t x y u) ty (.bool (decide (i=j))):= .of_run fun a w ha _=>by
 simp only[execOp,hx.eval ha,hy.eval ha];simp[go_sem]
 rfl
theorem Ev.neq (hx:aL F x (.int k i))(hy:aL F y (.int k j)):Ev P n F A (.binOp .neq t x y u) ty (.bool (!decide (i=j))):= .of_run fun a w ha _=>by
 simp only[execOp,hx.eval ha,hy.eval ha];simp[go_sem]
 rfl
theorem Ev.Wp (hx:aL F x (.int k i))(hy:aL F y (.int k j)):Ev P n F A (.binOp .add t x y u) ty (.int k (k.wrap (i+j))):= .of_run fun a w ha _=>by simp only[execOp,hx.eval ha,hy.eval ha];simp[go_sem,Op.intArith]
theorem Ev.Wq (hx:aL F x (.int k i))(hy:aL F y (.int k j)):Ev P n F A (.binOp .sub t x y u) ty (.int k (k.wrap (i-j))):= .of_run fun a w ha _=>by simp only[execOp,hx.eval ha,hy.eval ha];simp[go_sem,Op.intArith]
theorem Ev.Wr (hx:aL F x (.int k i))(hy:aL F y (.int k j)):Ev P n F A (.binOp .mul t x y u) ty (.int k (k.wrap (i*j))):= .of_run fun a w ha _=>by simp only[execOp,hx.eval ha,hy.eval ha];simp[go_sem,Op.intArith]
theorem rp {i:Int}(h: -9223372036854775808≤i∧i≤9223372036854775807):IntKind.i64.wrap i=i:=by
 simp only[IntKind.wrap,IntKind.bits,IntKind.signed]
 simp
 omega
theorem Ev.add (hx:aL F x (iv i))(hy:aL F y (iv j))(h: -9223372036854775808≤i+j∧i+j≤9223372036854775807):Ev P n F A (.binOp .add t x y u) ty (iv (i+j)):=by
 have:=Ev.Wp (P:=P) (n:=n) (A:=A) (ty:=ty) (t:=t) (u:=u) hx hy;rwa[rp h]at this
theorem Ev.sub (hx:aL F x (iv i))(hy:aL F y (iv j))(h: -9223372036854775808≤i-j∧i-j≤9223372036854775807):Ev P n F A (.binOp .sub t x y u) ty (iv (i-j)):=by
 have:=Ev.Wq (P:=P) (n:=n) (A:=A) (ty:=ty) (t:=t) (u:=u) hx hy;rwa[rp h]at this
theorem Ev.mul (hx:aL F x (iv i))(hy:aL F y (iv j))(h: -9223372036854775808≤i*j∧i*j≤9223372036854775807):Ev P n F A (.binOp .mul t x y u) ty (iv (i*j)):=by
 have:=Ev.Wr (P:=P) (n:=n) (A:=A) (ty:=ty) (t:=t) (u:=u) hx hy;rwa[rp h]at this
theorem Ev.Ws {k':IntKind}(hx:aL F x (.int k i))(hy:aL F y (.int k' j))(h:0≤j):Ev P n F A (.binOp .shl t x y u) ty (.int k (k.wrap (i*2^(min j.toNat k.bits)))):= .of_run fun a w ha _=>by
 simp only[execOp,hx.eval ha,hy.eval ha];simp[go_sem,Op.shift,Int.not_lt.2 h]
theorem Ev.shr {k':IntKind}(hx:aL F x (.int k i))(hy:aL F y (.int k' j))(h:0≤j):Ev P n F A (.binOp .shr t x y u) ty (.int k (i.fdiv (2^(min j.toNat k.bits)))):= .of_run fun a w ha _=>by
 simp only[execOp,hx.eval ha,hy.eval ha];simp[go_sem,Op.shift,Int.not_lt.2 h]
theorem Ev.Lr {k':IntKind}{s d:TypeId}(hx:aL F x (.int k i))(hs:(P.underlying s).isSome=true)(hd:P.underlying d=some (.int k')):Ev P n F A (.convert s d x) ty (.int k' (k'.wrap i)):= .of_run fun a w ha _=>by
 obtain⟨d0,F1⟩:=Option.isSome_iff_exists.mp hs
 simp[execOp,hx.eval ha,convert,run_underlying F1,run_underlying hd,Conv.intToInt]
end ints
section strings
variable {s r:cV}{t u:TypeId}
theorem Ev.j1 (hx:aL F x (sv s))(hy:aL F y (sv r)):Ev P n F A (.binOp .eql t x y u) ty (.bool (s==r)):= .of_run fun a w ha _=>by simp only[execOp,hx.eval ha,hy.eval ha];simp[go_sem]
theorem Ev.oz (hx:aL F x (sv s))(hy:aL F y (sv r)):Ev P n F A (.binOp .neq t x y u) ty (.bool (!(s==r))):= .of_run fun a w ha _=>by simp only[execOp,hx.eval ha,hy.eval ha];simp[go_sem]
theorem Ev.ll (hx:aL F x (sv s))(hy:aL F y (sv r))(h:s.length+r.length≤9223372036854775807):Ev P n F A (.binOp .add t x y u) ty (sv (s++r)):= .of_run fun a w ha _=>by
 have h1:=run_string_add_sum (P:=P) w ⟨s.toArray⟩ ⟨r.toArray⟩ (by simpa[ByteArray.size]using h)
 simp only[execOp,hx.eval ha,hy.eval ha,eqGuard_at_string,binOp_string_add,Sem.run_bind,Sem.run_pure,Result.andThen_ok,h1,ByteArray.mk_append_mk]
theorem Ev.ko {o:TypeId}(hx:aL F x (sv s))(ht:P.underlying o=some .string):Ev P n F A (.call {callee:= .builtin .len,args:= #[x],argTypes:= #[o]}) ty (iv s.length):= .of_run fun a w ha _=>by
 have h1:=run_len_string (P:=P) w o ty ⟨s.toArray⟩ ht
 simp[execOp,resolve,invoke,builtin,hx.eval ha,h1,goInt,ByteArray.size]
theorem Ev.NL {k:Nat}{i:Int}{b:UInt8}(hx:aL F x (sv s))(hy:aL F y (iv i))(ht:P.underlying t=some .string)(hi:i=k)(hb:s[k]?=some b):
 Ev P n F A (.index t x y) ty (.int .u8 b.toNat):= .of_run fun a w ha _=>by
 subst hi
 have jA:k<(⟨s.toArray⟩:ByteArray).size:=by simpa[ByteArray.size]using (List.getElem?_eq_some_iff.1 hb).1
 have h1:(⟨s.toArray⟩:ByteArray)[k]?=some b:=by
  rw[ByteArray.getElem?_lt' _ _ jA]
  have:=(List.getElem?_eq_some_iff.1 hb).2
  simpa[ByteArray.getElem_eq_getElem_data]using this
 simp[execOp,hx.eval ha,hy.eval ha,Instr.index,asIntOf,run_underlying ht,h1]
theorem Ev.gE {k:Nat}{i:Int}(hx:aL F x (sv s))(hy:aL F y (iv i))(ht:P.underlying t=some .string)(hi:i=k)(hb:k<s.length):
 Ev P n F A (.index t x y) ty (.int .u8 (s.getD k 0).toNat):=Ev.NL hx hy ht hi (by simp[List.getD_eq_getElem?_getD,List.getElem?_eq_getElem hb])
theorem Ev.extract {vs:List Value}{i:Nat}(hx:aL F x (.tuple vs.toArray))(hi:vs[i]?=some v):Ev P n F A (.extract x i) ty v:= .of_run fun a w ha _=>by
 simp[execOp,hx.eval ha,Instr.extract,hi]
end strings
section slices
variable {α:Type}{R:Rp α}{xs:List α}{t:TypeId}
theorem eF.aF {H:List bQ}{ρ:Ro}{w:World}{d:df}(h:eF c H ρ w)(hd:jW d H):d.f ρ:=dV.1 (h.dF _ hd.mem)
theorem eF.sl {H:List bQ}{ρ:Ro}{w:World}(h:eF c H ρ w)(hd:sM v H α R xs):(J.sl R v xs).f ρ:=dV.1 (h.dF _ hd.mem)
theorem Ev.au {e:TypeId}[hd:sM v H α R xs](hx:aL F x v)(ht:P.underlying t=some (.slice e)):
 Ev P n F (Mm c H) (.call {callee:= .builtin .len,args:= #[x],argTypes:= #[t]}) ty (iv xs.length):= .of_run fun a w ha hw=>by
 obtain⟨ρ,hm⟩:=hw.out;obtain⟨ad,cap,rfl,_⟩:=hm.sl hd
 simp[execOp,resolve,invoke,builtin,hx.eval ha,Builtin.len_,run_underlying ht,goInt]
theorem Ev.aR {e:TypeId}{k:Nat}{i:Int}{kd:IntKind}[hd:sM v H α R xs](hx:aL F x v)(hy:aL F y (.int kd i))(ht:P.underlying t=some (.slice e))(hs:(P.info? e).map (·.size)=some R.size)
 (hi:i=k) (hk:k<xs.length):Ev P n F (Mm c H) (.indexAddr t x y) ty (e9 v R.size k 0):= .of_run fun a w ha hw=>by
 obtain⟨ρ,hm⟩:=hw.out;obtain⟨ad,cap,rfl,_,_,_,h5⟩:=hm.sl hd
 rcases h5 with rfl|⟨b,off,C,e',fr,rfl,h6,h7⟩
 ·simp at hk
 ·obtain⟨inf,p4,fD⟩:=Option.map_eq_some_iff.1 hs
  subst hi
  simp[execOp,hx.eval ha,hy.eval ha,Instr.indexAt,asIntOf,run_underlying ht,sizeOf,typeInfo,p4,fD,hk,eQ,Addr.add_lit]
theorem wP {H:List bQ}{ρ:Ro}{w:World}(hm:eF c H ρ w)(hd:sM v H α R xs){k off:Nat}{x:α}(hk:xs[k]?=some x):
 ∃b o,e9 v R.size k off= .pointer (some ⟨b,o,none⟩)∧∀j,off+j<R.size→w.cell? ⟨b,o+j,none⟩=(R.cells x)[off+j]?:=by
 obtain⟨ad,cap,rfl,_,_,_,h5⟩:=hm.sl hd
 rcases h5 with rfl|⟨b,o,C,e',fr,rfl,h6,h7⟩
 ·simp at hk
 ·refine⟨b,_,eQ ..,fun j hj=> ?_⟩
  have hg:=jn R xs k (off+j) x hk hj
  rw[cW (hm.fits _ _ h6)]
  have jA:off+j<(R.cells x).length:=by rw[R.len];exact hj
  rw[List.getElem?_eq_getElem jA]at hg⊢;rw[show o+(k*R.size+off)+j=o+(k*R.size+(off+j)) by omega];exact h7 _ _ hg
theorem jg {β:Type}(d:β){l:List β}{k:Nat}(h:k<l.length):l[k]?=some (l.getD k d):=by rw[List.getD_eq_getElem?_getD,List.getElem?_eq_getElem h];rfl
theorem Ev.fL {k off:Nat}{e:α}{d:TypeDesc}{u:Value}[hd:sM v H α R xs](hx:aL F x (e9 v R.size k off))(hk:xs[k]?=some e)(ht:P.underlying t=some d)(lb:(match d with| .struct _| .array _ _=>False|_=>True))
 (hu:(R.cells e)[off]?=some u):Ev P n F (Mm c H) (.load t x) ty u:= .of_run fun a w ha hw=>by
 obtain⟨ρ,hm⟩:=hw.out
 have ho:off<R.size:=by have:=(List.getElem?_eq_some_iff.1 hu).1;rwa[R.len]at this
 obtain⟨b,o,h1,h2⟩:=wP hm hd hk
 have h3:=h2 0 (by simpa using ho)
 simp only[Nat.add_zero]at h3
 rw[h1]at hx
 simp[execOp,hx.eval ha,Instr.loadAt,Instr.sureAddr,fN ht lb (h3.trans hu)]
theorem Ev.fg {k:Nat}{e:α}{d:TypeDesc}{L:List Value}[hd:sM v H α R xs](hx:aL F x (e9 v R.size k 0))(hk:xs[k]?=some e)(ht:P.underlying t=some d)(lb:(match d with| .struct _| .array _ _=>True|_=>False))
 (hs:(P.info? t).map (·.size)=some R.size) (hL:R.cells e=L):Ev P n F (Mm c H) (.load t x) ty (.agg L.toArray):= .of_run fun a w ha hw=>by
 obtain⟨ρ,hm⟩:=hw.out;obtain⟨b,o,h1,h2⟩:=wP hm hd hk (off:=0);subst hL;rw[h1]at hx
 have h4:=eZ (P:=P) (w:=w) (b:=b) (off:=o) (L:=R.cells e) ht lb (by rw[hs,R.len]) (fun j u hj=>by
  have jA:=(List.getElem?_eq_some_iff.1 hj).1
  rw[R.len]at jA
  have:=h2 j (by omega)
  rw[Nat.zero_add]at this
  rw[this];exact hj)
 simp[execOp,hx.eval ha,Instr.loadAt,Instr.sureAddr,h4]
def aq (P:Program)(s i:Nat):Option Nat:=
 match P.underlying s with
 |some (.struct fs)=>match fs[i]? with
  |some f=>match P.info? f.type with
   |some inf=>if inf.size=0 then none else some f.offset
   |none=>none
  |none=>none
 |_=>none
theorem kJ {w:World}{s i o:Nat}{ad:Addr}(h:aq P s i=some o):(Instr.fieldAt s (.pointer (some ad)) i).run P w= .ok (.pointer (some (ad.add o))) w:=by
 unfold aq at h
 split at h
 ·rename_i fs hu
  split at h
  ·rename_i f hf
   split at h
   ·rename_i inf p4
    split at h
    ·simp at h
    ·rename_i hz
     simp only[Option.some.injEq]at h
     subst h
     simp[Instr.fieldAt,run_underlying hu,hf,Instr.sureAddr,fieldPlace,sizeOf,typeInfo,p4,hz]
   ·simp at h
  ·simp at h
 ·simp at h
theorem Ev.eR {k off o i:Nat}{s:TypeId}[hd:sM v H α R xs](hx:aL F x (e9 v R.size k off))(hk:k<xs.length)(ho:aq P s i=some o):Ev P n F (Mm c H) (.fieldAddr s x i) ty (e9 v R.size k (off+o)):= .of_run fun a w ha hw=>by
 obtain⟨ρ,hm⟩:=hw.out;obtain⟨ad,cap,rfl,_,_,_,h5⟩:=hm.sl hd
 rcases h5 with rfl|⟨b,of,C,e',fr,rfl,h6,h7⟩
 ·simp at hk
 ·rw[eQ]at hx
  simp[execOp,hx.eval ha,kJ ho,eQ,Addr.add_lit,Nat.add_assoc]
end slices
section blocks
variable {t:TypeId}{b off:Nat}{C:Array Value}{e:TypeId}{fr:Nat×Nat}
theorem Ev.wQ {o i:Nat}{s:TypeId}(hx:aL F x (.pointer (some ⟨b,off,none⟩)))(ho:aq P s i=some o):Ev P n F A (.fieldAddr s x i) ty (.pointer (some ⟨b,off+o,none⟩)):= .of_run fun a w ha hw=>by
 simp[execOp,hx.eval ha,kJ ho,Addr.add_lit]
theorem Ev.aD {o i:Nat}{s:TypeId}(hx:aL F x (.pointer (some ⟨b,0,none⟩)))(ho:aq P s i=some o):Ev P n F A (.fieldAddr s x i) ty (.pointer (some ⟨b,o,none⟩)):=by
 have:=Ev.wQ (P:=P) (n:=n) (A:=A) (ty:=ty) hx ho
 rwa[Nat.zero_add]at this
theorem Ev.cS {d:TypeDesc}{u:Value}{L:List Value}[hb:jm b H (.cells L.toArray e fr)](hx:aL F x (.pointer (some ⟨b,off,none⟩)))(ht:P.underlying t=some d)(lb:(match d with| .struct _| .array _ _=>False|_=>True))
 (hu:L[off]?=some u):Ev P n F (Mm c H) (.load t x) ty u:= .of_run fun a w ha hw=>by
 obtain⟨ρ,hm⟩:=hw.out
 have h1:=eO.1 (hm.dF _ hb.mem)
 have h2:w.cell? ⟨b,off,none⟩=some u:=by rw[cW h1];simpa using hu
 simp[execOp,hx.eval ha,Instr.loadAt,Instr.sureAddr,fN ht lb h2]
theorem Ev.bH {d:TypeDesc}{L:List Value}[hb:jm b H (.cells L.toArray e fr)](hx:aL F x (.pointer (some ⟨b,0,none⟩)))(ht:P.underlying t=some d)(lb:(match d with| .struct _| .array _ _=>True|_=>False))
 (hs:(P.info? t).map (·.size)=some L.length):Ev P n F (Mm c H) (.load t x) ty (.agg L.toArray):= .of_run fun a w ha hw=>by
 obtain⟨ρ,hm⟩:=hw.out
 have h1:=eO.1 (hm.dF _ hb.mem)
 have h4:=eZ (P:=P) (w:=w) (b:=b) (off:=0) (L:=L) ht lb hs (fun j u hj=>by rw[cW h1];simpa using hj)
 simp[execOp,hx.eval ha,Instr.loadAt,Instr.sureAddr,h4]
end blocks
def aV (F:Fr):List Operand→List Value→Prop
 | [],[]=>True
 |x::xs,v::vs=>aL F x v∧aV F xs vs
 |_,_=>False
theorem aV.nil:aV F [] []:=trivial
theorem aV.cons {xs:List Operand}{vs:List Value}(h:aL F x v)(k:aV F xs vs):aV F (x::xs) (v::vs):=⟨h,k⟩
theorem aV.eval {a:Act}(ha:Has n a F):∀{xs:List Operand} {vs:List Value},aV F xs vs→xs.map a.eval=vs
 | [],[],_=>rfl
 |x::xs,v::vs,h=>by rw[List.map_cons,h.1.eval ha,aV.eval ha h.2]
theorem Ev.build {t:TypeId}{ps:List (Nat×Operand)}{vs:List Value}(hp:aV F (ps.map (·.2)) vs)(hr:∀w,(Instr.build t ((ps.map (·.1)).zip vs).toArray).run P w= .ok v w):Ev P n F A (.build t ps.toArray) ty v:= .of_run fun a w ha _=>by
 have h1:ps.map (fun p=>(p.1,a.eval p.2))=(ps.map (·.1)).zip vs:=by
  rw[←aV.eval ha hp]
  clear hp hr
  induction ps with
  |nil=>rfl
  |cons p ps ih=>simp[ih]
 have h2:(ps.toArray.map fun(i,x)=>(i,a.eval x))=((ps.map (·.1)).zip vs).toArray:=by
  rw[←h1];simp
 simp only[execOp,h2,Sem.run_bind,hr,Result.andThen_ok,Sem.run_pure]
theorem wR {f : FuncId} {args : Array Value} {w : World} {fn : Func} (hf : P.funcs[f]? = some fn) (hb : fn.body.isSome = true) (hn : (fn.name == "runtime.NumGoroutine") = false) : (callFunc f args).run P w = .ok (.enter f args) w := by
 unfold callFunc
 simp[hf]
 cases Vi:fn.body with
 |none=>simp[Vi]at hb
 |some cd=>simpa using hn
end
theorem eF.AX {c:Ctx}{H:List bQ}{ρ:Ro}{w w':World}{E:bQ}(h:eF c H ρ w)(Wt:w'.os=w.os)(ht:w'.tape=w.tape∧w.drawn≤w'.drawn)(ho:w'.output=w.output)(hs:w.heap.size≤w'.heap.size)
 (hk:∀k,k<w.heap.size→w'.heap[k]?=w.heap[k]?) (hE:E.ok ρ w') (AY:∀b,E.key=some b→w.heap.size≤b):eF c (E::H) ρ w':=by
 have h':eF c ([]++H) ρ w:=h
 refine eF.step (H2:=[E]) h' ⟨Wt,⟨ht.1,fun _=>ht.2⟩,ho,hs,fun k lb _=>hk k lb,fun k o hr=> ?_,Ro.le_refl _,fun _ _ _=>rfl,?_,?_,?_⟩
 ·rw[hk k (h.Lo hr)];exact h.fits k o hr
 ·intro E' AF;simp at AF;subst AF;exact hE
 ·intro E' AF b hb
  simp at AF;subst AF
  refine⟨?_,.inl (AY b hb)⟩
  cases hr:ρ b with
  |none=>rfl
  |some o=>have h1:=h.Lo hr;have h2:=AY b hb;omega
 ·exact List.pairwise_singleton ..
theorem eF.alter {c:Ctx}{H:List bQ}{ρ:Ro}{w w':World}{E E':bQ}(h:eF c (E::H) ρ w)(Wt:w'.os=w.os)(ht:w'.tape=w.tape∧w.drawn≤w'.drawn)(ho:w'.output=w.output)(hs:w.heap.size≤w'.heap.size)
 (hk:∀k,k<w.heap.size→E.key≠some k→w'.heap[k]?=w.heap[k]?) (hE:E'.ok ρ w') (AY:∀b,E'.key=some b→E.key=some b∨w.heap.size≤b):eF c (E'::H) ρ w':=by
 have h':eF c ([E]++H) ρ w:=h
 refine eF.step (H2:=[E']) h' ⟨Wt,⟨ht.1,fun _=>ht.2⟩,ho,hs,fun k lb Eh=>hk k lb (fun e=>Eh ⟨E,by simp,e⟩),fun k o hr=> ?_,Ro.le_refl _,fun _ _ _=>rfl,?_,?_,?_⟩
 ·rw[hk k (h.Lo hr)]
  ·exact h.fits k o hr
  ·intro e
   have:=(h.own E (by simp) k e).1
   rw[hr]at this;cases this
 ·intro Wo AV;simp at AV;subst AV;exact hE
 ·intro Wo AV b hb
  simp at AV;subst AV
  rcases AY b hb with h1|h1
  ·exact⟨(h.own E (by simp) b h1).1,.inr ⟨E,by simp,h1⟩⟩
  ·refine⟨?_,.inl h1⟩
   cases hr:ρ b with
   |none=>rfl
   |some o=>have:=h.Lo hr;omega
 ·exact List.pairwise_singleton ..
theorem eF.alloc {c:Ctx}{H:List bQ}{ρ:Ro}{w:World}(h:eF c H ρ w)(o:Obj):eF c (ae w.heap.size o::H) ρ (w.alloc o):=
 h.AX rfl ⟨rfl,Nat.le_refl _⟩ rfl (by simp) (fun k hk=>RowKit.Below.heap_alloc w _ k hk) (eO.2 (heap_alloc_new w o)) (fun b hb=>by rw[fK]at hb;simp at hb;omega)
class DM (L:List Value)(off:Nat)(v:Value)(L':outParam (List Value)):Prop where
 eq:L.set off v=L'
instance DM.here (x:Value)(L:List Value)(v:Value):DM (x::L) 0 v (v::L):=⟨rfl⟩
instance DM.there (x:Value)(L:List Value)(v:Value)(k:Nat)(L':List Value)[h:DM L k v L']:DM (x::L) (k+1) v (x::L'):=⟨by rw[List.set_cons_succ,h.eq]⟩
class v7 (v:Value)(H:List bQ)(e:outParam TypeId)(size n:outParam Nat)(cs:outParam (List Value)):Prop where
 mem:row v e size n cs∈H
instance (priority:=high) v7.here (v:Value)(e:TypeId)(size n:Nat)(cs:List Value)(H:List bQ):v7 v (row v e size n cs::H) e size n cs:=⟨List.mem_cons_self ..⟩
instance v7.there (v:Value)(e:TypeId)(size n:Nat)(cs:List Value)(E:bQ)(H:List bQ)[h:v7 v H e size n cs]:v7 v (E::H) e size n cs:=⟨List.mem_cons_of_mem _ h.mem⟩
theorem bp (C:Array Value):(Value.agg C).cells=C:=rfl
theorem aG {v:Value}(h:v.oneCell'=true):v.cells= #[v]:=by
 cases v<;>first|rfl|simp[Value.oneCell']at h
section
variable {P:Program}{n:Nat}{F:Fr}{A:World→Prop}{c:Ctx}{H R:List bQ}{ty:TypeId}{x y z:Operand}{v:Value}{Q:Exit→Act→World→Prop}{ops:Array Oper}{rest:List Oper}
 {d:Nat} {pos:String} {after:Array Edge} {t e:TypeId}
theorem St.alloc {Z:Array Value}(hz:(P.info? t).bind (fun i=>i.zero.map Value.cells)=some Z)(hd:Nat.ble (d+1) n=true)
 (h:∀b,St n ((d,.pointer (some ⟨b,0,none⟩))::F) (Mm c (ae b (.cells Z t (0,0))::H)) (wpList P ops Q rest)):
 St n F (Mm c H) (wpList P ops Q ({dst:=some d,op:= .alloc t,type:=ty,pos:=pos,after:=after,guard:=none}::rest)):=by
 refine St.Eg (K:=fun u H'=>∃b,u= .pointer (some ⟨b,0,none⟩)∧H'=ae b (.cells Z t (0,0))::H) ?_ hd ?_
 ·intro a w ρ ha hm
  obtain⟨i,hi,Wu⟩:=Option.bind_eq_some_iff.1 hz;obtain⟨zv,Wv,rfl⟩:=Option.map_eq_some_iff.1 Wu;refine⟨.value (.pointer (some ⟨w.heap.size,0,none⟩)),w.alloc (.cells zv.cells t),ρ,_,?_,⟨_,.inl rfl,_,rfl,rfl⟩,hm.alloc _⟩
  simp[execOp,Instr.alloc,zeroValue,typeInfo,hi,Wv,newVar,newRow]
 ·rintro _ _ ⟨b,rfl,rfl⟩
  exact h b
theorem St.cX {L:List Value}(hx:aL F x (.agg L.toArray))(hd:Nat.ble (d+1) n=true)
 (h:∀b,St n ((d,.pointer (some ⟨b,0,none⟩))::F) (Mm c (ae b (.cells L.toArray t (0,0))::H)) (wpList P ops Q rest)):
 St n F (Mm c H) (wpList P ops Q ({dst:=some d,op:= .box t x,type:=ty,pos:=pos,after:=after,guard:=none}::rest)):=by
 refine St.Eg (K:=fun u H'=>∃b,u= .pointer (some ⟨b,0,none⟩)∧H'=ae b (.cells L.toArray t (0,0))::H) ?_ hd ?_
 ·intro a w ρ ha hm
  refine⟨.value (.pointer (some ⟨w.heap.size,0,none⟩)),w.alloc (.cells L.toArray t),ρ,_,?_,⟨_,.inl rfl,_,rfl,rfl⟩,hm.alloc _⟩
  simp[execOp,Instr.box,hx.eval ha,newVar,newRow,Value.cells]
 ·rintro _ _ ⟨b,rfl,rfl⟩
  exact h b
theorem kK {w:World}{b off:Nat}{C:Array Value}{v:Value}(h:w.heap[b]?=some (.cells C e (0,0))):(w.setCell ⟨b,off,none⟩ v).heap[b]?=some (.cells (C.setIfInBounds off v) e (0,0)):=by
 simp[World.setCell,Array.getElem?_modify,h]
theorem St.cR {b off:Nat}{L L':List Value}[tk:lK b H (.cells L.toArray e (0,0)) R](hx:aL F x (.pointer (some ⟨b,off,none⟩)))(hy:aL F y v)[sl:DM L off v L'](hs:(P.info? t).map (·.size)=some 1)(h1:v.oneCell'=true)
 (yO:Nat.ble (off+1) L.length=true) (h:St n F (Mm c (ae b (.cells L'.toArray e (0,0))::R)) (wpList P ops Q rest)):
 St n F (Mm c H) (wpList P ops Q ({dst:=none,op:= .store t x y,type:=ty,pos:=pos,after:=after,guard:=none}::rest)):=by
 refine St.lk (K:=fun u H'=>H'=ae b (.cells L'.toArray e (0,0))::R) ?_ ?_
 ·intro a w ρ ha hm
  have jC:=hm.perm tk.perm
  have hb:=eO.1 (jC.dF _ (List.mem_cons_self ..))
  have ho:=Nat.le_of_ble_eq_true yO
  have hc:w.cell? ⟨b,off,none⟩=some L[off]:=by rw[cW hb];simp
  have hf:w.frozen? ⟨b,off,none⟩=false:=by simp[World.frozen?,hb]
  obtain⟨i,hi,fD⟩:=Option.map_eq_some_iff.1 hs;refine⟨.skip,w.setCell ⟨b,off,none⟩ v,ρ,_,?_,⟨_,.inr ⟨rfl,rfl⟩,rfl⟩,?_⟩
  ·simp[execOp,hx.eval ha,hy.eval ha,Instr.storeAt,Instr.sureAddr,storeVar,sizeOf,typeInfo,hi,fD,aG h1,storeCells,run_store P w _ v _ h1,hc,hf,Addr.add_zero']
  ·refine jC.alter rfl ⟨rfl,Nat.le_refl _⟩ rfl (by simp) (fun k hk fj=> ?_) (eO.2 ?_) (fun b' iu=>by rw[fK]at iu⊢;exact .inl iu)
   ·rw[fK]at fj
    simp only[World.setCell,Array.getElem?_modify]
    rw[if_neg (fun e=>fj (by rw[e]))]
   ·rw[kK hb,←sl.eq]
    simp
 ·rintro _ _ rfl
  exact h
theorem St.NM {b:Nat}{L L':List Value}[tk:lK b H (.cells L.toArray t (0,0)) R](hx:aL F x (.pointer (some ⟨b,0,none⟩)))(hy:aL F y (.agg L'.toArray))(hs:(P.info? e).map (·.size)=some L'.length)(hl:L.length=L'.length)
 (h1:L'.all (·.oneCell')=true) (h:St n F (Mm c (ae b (.cells L'.toArray t (0,0))::R)) (wpList P ops Q rest)):
 St n F (Mm c H) (wpList P ops Q ({dst:=none,op:= .store e x y,type:=ty,pos:=pos,after:=after,guard:=none}::rest)):=by
 refine St.lk (K:=fun u H'=>H'=ae b (.cells L'.toArray t (0,0))::R) ?_ ?_
 ·intro a w ρ ha hm
  have jC:=hm.perm tk.perm
  have hb:=eO.1 (jC.dF _ (List.mem_cons_self ..))
  have hr:=run_storeVar_row (P:=P) w b t e L.toArray L'.toArray hb (by simpa using hs) (by simpa using hl) (by simpa using h1)
  refine⟨.skip,w.setRow b L'.toArray,ρ,_,?_,⟨_,.inr ⟨rfl,rfl⟩,rfl⟩,?_⟩
  ·simp[execOp,hx.eval ha,hy.eval ha,Instr.storeAt,Instr.sureAddr,hr]
  ·refine jC.alter rfl ⟨rfl,Nat.le_refl _⟩ rfl (by simp) (fun k hk fj=> ?_) (eO.2 ?_) (fun b' iu=>by rw[fK]at iu⊢;exact .inl iu)
   ·rw[fK]at fj
    exact setRow_other w b k _ (fun e=>fj (by rw[e]))
   ·exact setRow_heap w b L.toArray L'.toArray t _ hb
 ·rintro _ _ rfl
  exact h
theorem Ev.func {f:FuncId}{cs:List Operand}{vs:List Value}(hc:aV F cs vs):Ev P n F A (.makeFunc (.func f) #[] cs.toArray) ty (.func (.func f) #[] vs.toArray):= .of_run fun a w ha _=>by
 have:=aV.eval ha hc
 simp[execOp,Instr.makeFunc,this]
theorem yP (size:Nat):∀(vs:List Value) (k:Nat) (pre post:List Value),pre.length=k*size→(∀u∈vs,u.cells.size=size)→post.length=vs.length*size→
 Instr.fill (fun i=>some (i*size,size)) (pre++post).toArray ((vs.zipIdx k).map fun p=>(p.2,p.1))=some (pre++vs.flatMap fun u=>u.cells.toList).toArray
 | [],k,pre,post,_,_,hp=>by
  have:post=[]:=List.eq_nil_of_length_eq_zero (by simpa using hp)
  subst this
  simp[Instr.fill]
 |u::vs,k,pre,post,Ww,hu,QN=>by
  have NN:=hu u (by simp)
  have hlen:post.length=size+vs.length*size:=by rw[QN,List.length_cons,Nat.add_mul];omega
  have Wx:∀(l:List Value) (m:Nat) (Z:List Value),m+l.length≤Z.length→((l.zipIdx m).foldl (fun cs p=>cs.setIfInBounds (k*size+p.2) p.1) (pre++Z).toArray)=(pre++(Z.take m++l++Z.drop (m+l.length))).toArray:=by
   intro l
   induction l with
   |nil=>intro m Z _;simp
   |cons y l ih=>
    intro m Z hZ
    simp only[List.length_cons]at hZ
    simp only[List.zipIdx_cons,List.foldl_cons]
    have e1:(pre++Z).toArray.setIfInBounds (k*size+m) y=(pre++Z.set m y).toArray:=by
     simp only[List.setIfInBounds_toArray]
     rw[List.set_append_right _ _ (by omega)]
     congr 2
     rw[show k*size+m-pre.length=m by omega]
    rw[e1,ih (m+1) (Z.set m y) (by simp;omega)]
    congr 2
    simp only[List.length_cons]
    rw[List.drop_set_of_lt (by omega),show m+1+l.length=m+(l.length+1) by omega];rw[List.take_set]
    have:(Z.take (m+1)).set m y=Z.take m++ [y]:=by
     rw[List.take_succ_eq_append_getElem (by omega),List.set_append_right _ _ (by simp[Nat.min_le_left])]
     simp[show min m Z.length=m by omega]
    rw[this]
    simp
  simp only[List.zipIdx_cons,List.map_cons,Instr.fill]
  have hb:¬(u.cells.size≠size∨(pre++post).toArray.size<k*size+u.cells.size):=by simp;omega
  have iu:((decide (u.cells.size≠size))||decide (k*size+u.cells.size>(pre++post).toArray.size))=false:=by
   simp;omega
  simp only[iu,Bool.false_eq_true,if_false]
  have hf:=Wx u.cells.toList 0 post (by simp;omega)
  have hz:u.cells.zipIdx.foldl (fun cs (c,j)=>cs.setIfInBounds (k*size+j) c) (pre++post).toArray=(pre++(u.cells.toList++post.drop size)).toArray:=by
   rw[←Array.foldl_toList]
   simp only[Array.toList_zipIdx]
   rw[hf]
   simp[NN]
  rw[hz,←List.append_assoc]
  have ih:=yP size vs (k+1) (pre++u.cells.toList) (post.drop size) (by simp[NN,Ww,Nat.add_mul]) (fun x hx=>hu x (by simp[hx])) (by simp;omega)
  rw[ih]
  simp
theorem St.J7 {size:Nat}{xs:List Operand}{vs:List Value}{ps:List (Nat×Operand)}{zv:Value}(hp:ps=xs.zipIdx.map fun p=>(p.2,p.1))(hx:aV F xs vs)(ht:P.underlying t=some (.slice e))(hs:(P.info? e).map (·.size)=some size)
 (hz:(P.info? e).bind (·.zero)=some zv) (mY:Nat.ble 1 size=true) (hlen:Nat.ble (vs.length*size) 16777216=true) (kp:∀u∈vs,u.cells.size=size) (hd:Nat.ble (d+1) n=true)
 {m:Nat} (hm:m=vs.length)
 (h:∀b,St n ((d,.slice (some ⟨b,0,none⟩) m m)::F) (Mm c (row (.slice (some ⟨b,0,none⟩) m m) e size m (vs.flatMap fun u=>u.cells.toList)::H)) (wpList P ops Q rest)):
 St n F (Mm c H) (wpList P ops Q ({dst:=some d,op:= .buildSlice t m ps.toArray,type:=ty,pos:=pos,after:=after,guard:=none}::rest)):=by
 subst hm;refine St.Eg (K:=fun u H'=>∃b,u= .slice (some ⟨b,0,none⟩) vs.length vs.length∧H'=row (.slice (some ⟨b,0,none⟩) vs.length vs.length) e size vs.length (vs.flatMap fun u=>u.cells.toList)::H) ?_ hd ?_
 ·intro a w ρ ha sN
  have hle:=Nat.le_of_ble_eq_true hlen
  have Vj:=aV.eval ha hx
  have sO:xs.length=vs.length:=by rw[←Vj,List.length_map]
  obtain⟨i,hi,fD⟩:=Option.map_eq_some_iff.1 hs
  have Pq:i.zero=some zv:=by rw[hi]at hz;simpa using hz
  have F2:(vs.flatMap fun u=>u.cells.toList).length=vs.length*size:=by
   clear hx Vj sO hle hlen h
   induction vs with
   |nil=>simp
   |cons u vs ih=>
    simp only[List.flatMap_cons,List.length_append,List.length_cons,Nat.add_mul]
    rw[ih (fun x hx=>kp x (by simp[hx]))]
    have:=kp u (by simp)
    simp[this];omega
  have AZ:(ps.toArray.map fun(i,x)=>(i,a.eval x)).toList=(vs.zipIdx).map fun p=>(p.2,p.1):=by
   subst hp;rw[←Vj]
   simp[List.zipIdx_map,Function.comp_def]
  refine⟨.value (.slice (some ⟨w.heap.size,0,none⟩) vs.length vs.length),w.alloc (.cells (vs.flatMap fun u=>u.cells.toList).toArray e),ρ,_,?_,⟨_,.inl rfl,_,rfl,rfl⟩,?_⟩
  ·by_cases h0:vs.length*size=0
   ·have hv0:vs=[]:=by
     rcases Nat.mul_eq_zero.1 h0 with h1|h1
     ·exact List.eq_nil_of_length_eq_zero h1
     ·have:=Nat.le_of_ble_eq_true mY;omega
    rw[hv0]at AZ⊢
    simp only[execOp,Instr.buildSlice,Sem.run_bind,run_underlying ht,Result.andThen_ok,sizeOf,typeInfo,Sem.run_pure,AZ,run_program,hi,fD]
    simp[Instr.fill,newRow,Array.range_zero']
   ·obtain⟨z,hzz⟩:∃z:List Value,((Array.range (vs.length*size)).map (zv.cells[· %zv.cells.size]!))=z.toArray:=⟨_,(Array.toArray_toList).symm⟩
    have J8:z.length=vs.length*size:=by have:=congrArg Array.size hzz;simpa using this.symm
    have hf:=yP size vs 0 [] z (by simp) kp J8
    simp only[List.nil_append]at hf
    have hgt:¬vs.length*size>2^24:=by simp;omega
    simp only[execOp,Instr.buildSlice,Sem.run_bind,run_underlying ht,Result.andThen_ok,sizeOf,typeInfo,Sem.run_pure,AZ,run_program,hi,fD,zeroValue,Pq,hgt,h0,if_false,hzz,Sem.run_ite]
    simp[hf,newRow]
  ·refine sN.AX rfl ⟨rfl,Nat.le_refl _⟩ rfl (by simp) (fun k hk=>RowKit.Below.heap_alloc w _ k hk) (eP.2 ⟨F2,.inr ⟨w.heap.size,vs.length,_,rfl,Nat.zero_le _,heap_alloc_new w _,Nat.le_refl _,?_,?_,?_⟩⟩) ?_
   ·have:vs.length≤vs.length*size:=Nat.le_mul_of_pos_right _ (Nat.le_of_ble_eq_true mY)
    unfold maxLen;omega
   ·rw[List.size_toArray,F2]
   ·rw[←F2,List.take_length]
   ·intro b hb;rw[ef]at hb;simp[Value.ownBlock]at hb;omega
 ·rintro _ _ ⟨b,rfl,rfl⟩
  exact h b
def aW (P : Program) (f : FuncId) : Prop := ∃ fn, P.funcs[f]? = some fn ∧ fn.body.isSome = true ∧ (fn.name == "runtime.NumGoroutine") = false
theorem aW.run {f:FuncId}(h:aW P f){args:Array Value}{w:World}:(callFunc f args).run P w= .ok (.enter f args) w:=
 let⟨_,h1,h2,h3⟩:=h;wR h1 h2 h3
theorem Mm.F3 {dr:Prop}{f:FuncId}{args:Array Value}{pre R:List bQ}{post:Value→List bQ→Prop}(hc:DJ dr P f args pre post)(jB:c.dr→dr){w:World}(hm:Mm c (pre++R) w):
 Calls P f args w fun e w'=>∃v H',e= .returned v∧post v H'∧Mm c (H'++R) w':=by
 obtain⟨ρ,hm⟩:=hm.out;refine(hc w ρ hm.start).mono ?_;rintro e w' ⟨v,H',he,hp,jC⟩;obtain⟨iK,jC⟩:=jC.out;exact⟨v,H',he,hp,Mm.mk (hm.step (jC.dr jB))⟩
theorem Mm.call {f:FuncId}{args:Array Value}{pre R:List bQ}{post:Value→List bQ→Prop}(hc:fC P f args pre post){w:World}(hm:Mm c (pre++R) w):
 Calls P f args w fun e w'=>∃v H',e= .returned v∧post v H'∧Mm c (H'++R) w':=Mm.F3 hc.gen (fun _=>trivial) hm
theorem Mm.mZ {ds:List df}[hd:oP ds H]{w:World}(hm:Mm c H w):Mm c (ds.map aF++H) w:=
 let⟨_,k⟩:=hm.out;Mm.mk (k.yM ds fun d h=>dV.1 (k.dF _ (hd.mem d h)))
theorem lL {f:FuncId}{xs:List Operand}{uV:Array TypeId}{vs caps:List Value}(wS:aW P f)(hx:aV F (x::xs) (.func (.func f) #[] caps.toArray::vs)){a:Act}(ha:Has n a F)(w:World):
 (execOp a.eval (bare (.call {callee:= .value x,args:=xs.toArray,argTypes:=uV}) ty)).run P w= .ok (.enter f (vs++caps).toArray) w:=by
 have h1:=hx.1.eval ha
 have h2:=aV.eval ha hx.2
 simp only[execOp,resolve,h1,Deferred.ofValue,Sem.run_bind,Sem.run_pure,Result.andThen_ok,invoke]
 have e:(#[]++xs.toArray.map a.eval++caps.toArray)=(vs++caps).toArray:=by simp[h2]
 rw[e];exact wS.run
theorem Ev.call {f:FuncId}{xs:List Operand}{uV:Array TypeId}{vs:List Value}{ds:List df}(hc:cz P f vs.toArray ds v)(wS:aW P f)(hx:aV F xs vs)[hd:oP ds H]:
 Ev P n F (Mm c H) (.call {callee:= .value (.func f),args:=xs.toArray,argTypes:=uV}) ty v:=by
 intro a w ha hw;rw[lL (caps:=[]) wS (aV.cons (aL.mk rfl) hx) ha w]
 simp only[List.append_nil,Oper.quietUpon,true_and]
 refine(Mm.call hc hw.mZ).mono ?_;rintro e w' ⟨u,H',rfl,rfl,hm⟩;refine⟨rfl,?_⟩;obtain⟨ρ,hm⟩:=hm.out;exact Mm.mk ((hm.perm List.perm_append_comm).left)
theorem Ev.jo {f:FuncId}{xs:List Operand}{uV:Array TypeId}{vs:List Value}{ds:List df}(jB:¬c.dr)(hc:gj P f vs.toArray ds v)(wS:aW P f)(hx:aV F xs vs)[hd:oP ds H]:
 Ev P n F (Mm c H) (.call {callee:= .value (.func f),args:=xs.toArray,argTypes:=uV}) ty v:=by
 intro a w ha hw;rw[lL (caps:=[]) wS (aV.cons (aL.mk rfl) hx) ha w]
 simp only[List.append_nil,Oper.quietUpon,true_and]
 refine(Mm.F3 hc (fun h=>absurd h jB) hw.mZ).mono ?_;rintro e w' ⟨u,H',rfl,rfl,hm⟩;refine⟨rfl,?_⟩;obtain⟨ρ,hm⟩:=hm.out;exact Mm.mk ((hm.perm List.perm_append_comm).left)
theorem Ev.dR {f:FuncId}{xs:List Operand}{uV:Array TypeId}{vs caps:List Value}{ds:List df}(hc:cz P f (vs++caps).toArray ds v)(wS:aW P f)(hf:aL F x (.func (.func f) #[] caps.toArray))(hx:aV F xs vs)[hd:oP ds H]:
 Ev P n F (Mm c H) (.call {callee:= .value x,args:=xs.toArray,argTypes:=uV}) ty v:=by
 intro a w ha hw;rw[lL wS (aV.cons hf hx) ha w]
 simp only[Oper.quietUpon,true_and]
 refine(Mm.call hc hw.mZ).mono ?_;rintro e w' ⟨u,H',rfl,rfl,hm⟩;refine⟨rfl,?_⟩;obtain⟨ρ,hm⟩:=hm.out;exact Mm.mk ((hm.perm List.perm_append_comm).left)
theorem jY {f:FuncId}{xs:List Operand}{uV:Array TypeId}{vs caps:List Value}(wS:aW P f)(hx:aV F (x::xs) (.func (.func f) #[] caps.toArray::vs)){a:Act}(ha:Has n a F)(w:World){K:Act→World→Prop}
 {dd:Option Tmp} {g:Option (Nat×Bool)}
 (hk:Calls P f (vs++caps).toArray w fun e w'=>∃v,e= .returned v∧K (a.put dd v) w'):
 ({dst:=dd,op:= .call {callee:= .value x,args:=xs.toArray,argTypes:=uV},type:=ty,pos:=pos,after:=after,guard:=g}:Oper).wp P a w K Q:=by
 unfold Oper.wp Oper.upon;rw[fk,lL wS hx ha w]
 exact hk.mono fun e w' ⟨v,he,h⟩=>by subst he;exact h
theorem St.call {f:FuncId}{xs:List Operand}{uV:Array TypeId}{vs:List Value}{pre R:List bQ}{post:Value→List bQ→Prop}(hc:fC P f vs.toArray pre post)(wS:aW P f)(hx:aV F xs vs)(hd:Nat.ble (d+1) n=true)[tk:jS pre H R]
 (h:∀v H',post v H'→St n ((d,v)::F) (Mm c (H'++R)) (wpList P ops Q rest)):
 St n F (Mm c H) (wpList P ops Q ({dst:=some d,op:= .call {callee:= .value (.func f),args:=xs.toArray,argTypes:=uV},type:=ty,pos:=pos,after:=after,guard:=none}::rest)):=by
 intro a w ha hw;refine iW rfl (jY (caps:=[]) wS (aV.cons (aL.mk rfl) hx) ha w ?_)
 simp only[List.append_nil]
 refine(Mm.call hc (hw.take (L:=pre))).mono ?_;rintro e w' ⟨u,H',rfl,hp,hm⟩;exact⟨u,rfl,h u H' hp _ w' (ha.put (Nat.le_of_ble_eq_true hd) u) hm⟩
theorem St.ay {f:FuncId}{xs:List Operand}{uV:Array TypeId}{vs:List Value}{ds:List df}{post:Value→List bQ→Prop}(hc:fC P f vs.toArray (ds.map aF) post)(wS:aW P f)(hx:aV F xs vs)(hd:Nat.ble (d+1) n=true)[QO:oP ds H]
 (h:∀v H',post v H'→St n ((d,v)::F) (Mm c (H'++H)) (wpList P ops Q rest)):
 St n F (Mm c H) (wpList P ops Q ({dst:=some d,op:= .call {callee:= .value (.func f),args:=xs.toArray,argTypes:=uV},type:=ty,pos:=pos,after:=after,guard:=none}::rest)):=by
 intro a w ha hw;refine iW rfl (jY (caps:=[]) wS (aV.cons (aL.mk rfl) hx) ha w ?_)
 simp only[List.append_nil]
 refine(Mm.call hc (hw.mZ (ds:=ds))).mono ?_;rintro e w' ⟨u,H',rfl,hp,hm⟩;exact⟨u,rfl,h u H' hp _ w' (ha.put (Nat.le_of_ble_eq_true hd) u) hm⟩
theorem St.qH {f:FuncId}{xs:List Operand}{uV:Array TypeId}{vs:List Value}{ds:List df}{post:Value→List bQ→Prop}(jB:¬c.dr)(hc:DK P f vs.toArray (ds.map aF) post)(wS:aW P f)(hx:aV F xs vs)(hd:Nat.ble (d+1) n=true)[QO:oP ds H]
 (h:∀v H',post v H'→St n ((d,v)::F) (Mm c (H'++H)) (wpList P ops Q rest)):
 St n F (Mm c H) (wpList P ops Q ({dst:=some d,op:= .call {callee:= .value (.func f),args:=xs.toArray,argTypes:=uV},type:=ty,pos:=pos,after:=after,guard:=none}::rest)):=by
 intro a w ha hw;refine iW rfl (jY (caps:=[]) wS (aV.cons (aL.mk rfl) hx) ha w ?_)
 simp only[List.append_nil]
 refine(Mm.F3 hc (fun h=>absurd h jB) (hw.mZ (ds:=ds))).mono ?_;rintro e w' ⟨u,H',rfl,hp,hm⟩;exact⟨u,rfl,h u H' hp _ w' (ha.put (Nat.le_of_ble_eq_true hd) u) hm⟩
theorem St.dR {f:FuncId}{xs:List Operand}{uV:Array TypeId}{vs caps:List Value}{pre R:List bQ}{post:Value→List bQ→Prop}(hc:fC P f (vs++caps).toArray pre post)(wS:aW P f)(hf:aL F x (.func (.func f) #[] caps.toArray))(hx:aV F xs vs)(hd:Nat.ble (d+1) n=true)[tk:jS pre H R]
 (h:∀v H',post v H'→St n ((d,v)::F) (Mm c (H'++R)) (wpList P ops Q rest)):
 St n F (Mm c H) (wpList P ops Q ({dst:=some d,op:= .call {callee:= .value x,args:=xs.toArray,argTypes:=uV},type:=ty,pos:=pos,after:=after,guard:=none}::rest)):=by
 intro a w ha hw;refine iW rfl (jY wS (aV.cons hf hx) ha w ?_);refine(Mm.call hc (hw.take (L:=pre))).mono ?_;rintro e w' ⟨u,H',rfl,hp,hm⟩;exact⟨u,rfl,h u H' hp _ w' (ha.put (Nat.le_of_ble_eq_true hd) u) hm⟩
def ck (P:Program)(t:TypeId)(w:World):Result (Array (Nat×Nat)):=
 match P.underlying t with
 |some (.struct fs)=>(fs.mapM fun f=>(do pure (f.offset,←sizeOf f.type):Sem (Nat×Nat))).run P w
 | _ => .halt (.stuck "") w
theorem bZ {Z C:Array Value}{pl:Array (Nat×Nat)}{parts:List (Nat×Value)}{w:World}(hz:(P.info? t).bind (fun i=>i.zero.map Value.cells)=some Z)(hp:ck P t w= .ok pl w)(hf:Instr.fill (pl[·]?) Z parts=some C):
 (Instr.build t parts.toArray).run P w= .ok (.agg C) w:=by
 obtain⟨i,hi,Wu⟩:=Option.bind_eq_some_iff.1 hz;obtain⟨zv,Wv,rfl⟩:=Option.map_eq_some_iff.1 Wu;unfold ck at hp
 split at hp
 ·rename_i fs hu
  simp only[Instr.build,zeroValue,typeInfo,Sem.run_bind,run_program,Result.andThen_ok,hi,Wv,Sem.run_pure,run_underlying hu,hp,hf]
 ·cases hp
end
def aE:Fr→Fr→Prop
 |F,F0=>Sub F0 F
theorem aE.nil {F:Fr}:aE F []:=trivial
theorem aE.cons {F F0:Fr}(k:Nat){v:Value}(h:look F k=some v)(h':aE F F0):aE F ((k,v)::F0):=⟨h,h'⟩
section
variable {P:Program}{n:Nat}{F F0:Fr}{A:World→Prop}{c:Ctx}{H R:List bQ}{ty:TypeId}{x y z:Operand}{v:Value}{Q:Exit→Act→World→Prop}{ops:Array Oper}{rest:List Oper}
 {d:Nat} {pos:String} {after:Array Edge} {t e:TypeId}
def qv {ι:Type}(n:Nat)(G:ι→Fr→Fr)(F0:Fr)(φ:ι→Prop)(μ:ι→Nat)(c:Ctx)(Hf:ι→List bQ)(k:Nat)(a:Act)(w:World):Prop:=
 ∃y,μ y<k∧Has n a (G y F0)∧φ y∧Mm c (Hf y) w
def Met {ι:Type}(n:Nat)(G:ι→Fr→Fr)(F0:Fr)(φ:ι→Prop)(c:Ctx)(Hf:ι→List bQ)(a:Act)(w:World):Prop:=
 ∃y,Has n a (G y F0)∧φ y∧Mm c (Hf y) w
theorem St.Ls {ι:Type}{body:Code}(G:ι→Fr→Fr)(Hf:ι→List bQ)(φ:ι→Prop)(μ:ι→Nat)(gR:ι)(_hk:aE F F0)(h0:φ gR)(hF:Sub (G gR F0) F)(hH:∀w,Mm c H w→Mm c (Hf gR) w)
 (round:∀x,φ x→St n (G x F0) (Mm c (Hf x)) (body.wp P (Exit.then (qv n G F0 φ μ c Hf (μ x)) Q))):
 St n F (Mm c H) ((Code.loop body).wp P Q):=by
 refine St.loop (fun x=>G x F0) (fun x w=>φ x∧Mm c (Hf x) w) μ gR hF (fun w hw=>⟨h0,hH w hw⟩) fun x=> ?_
 exact St.and fun hx=>round x hx
theorem St.F4 {ι:Type}{G:ι→Fr→Fr}{Hf:ι→List bQ}{φ:ι→Prop}{μ:ι→Nat}{k:Nat}(y:ι)(Aa:φ y)(hm:μ y<k)(hF:Sub (G y F0) F)(hA:∀w,Mm c H w→Mm c (Hf y) w):
 St n F (Mm c H) (qv n G F0 φ μ c Hf k):=
 fun _ w ha hw=>⟨y,hm,ha.sub hF,Aa,hA w hw⟩
theorem St.QP {ι:Type}{body:Code}(G:ι→Fr→Fr)(φ:ι→Prop)(μ:ι→Nat)(gR:ι)(hk:aE F F0)(h0:φ gR)(hF:Sub (G gR F0) F)
 (round:∀x,φ x→St n (G x F0) (Mm c H) (body.wp P (Exit.then (qv n G F0 φ μ c (fun _=>H) (μ x)) Q))):
 St n F (Mm c H) ((Code.loop body).wp P Q):=St.Ls G (fun _=>H) φ μ gR hk h0 hF (fun _ hw=>hw) round
theorem St.Ab {ι:Type}{G:ι→Fr→Fr}{φ:ι→Prop}{μ:ι→Nat}{k:Nat}{H':List bQ}(y:ι)(Aa:φ y)(hm:μ y<k)(hF:Sub (G y F0) F)(hA:∀w,Mm c H w→Mm c H' w):
 St n F (Mm c H) (qv n G F0 φ μ c (fun _=>H') k):=St.F4 y Aa hm hF hA
def wT {ι κ:Type}(n:Nat)(G:ι→κ→Fr→Fr)(F0:Fr)(φ:ι→κ→Prop)(μ:ι→κ→Nat)(c:Ctx)(Hf:ι→κ→List bQ)(k:Nat)(a:Act)(w:World):Prop:=
 ∃y z,μ y z<k∧Has n a (G y z F0)∧φ y z∧Mm c (Hf y z) w
theorem St.NO {ι κ:Type}{body:Code}(G:ι→κ→Fr→Fr)(Hf:ι→κ→List bQ)(φ:ι→κ→Prop)(μ:ι→κ→Nat)(gR:ι)(wU:κ)(_hk:aE F F0)(h0:φ gR wU)(hF:Sub (G gR wU F0) F)(hH:∀w,Mm c H w→Mm c (Hf gR wU) w)
 (round:∀x z,φ x z→St n (G x z F0) (Mm c (Hf x z)) (body.wp P (Exit.then (wT n G F0 φ μ c Hf (μ x z)) Q))):
 St n F (Mm c H) ((Code.loop body).wp P Q):=by
 refine St.loop (ι:=ι×κ) (fun x=>G x.1 x.2 F0) (fun x w=>φ x.1 x.2∧Mm c (Hf x.1 x.2) w) (fun x=>μ x.1 x.2) (gR,wU) hF (fun w hw=>⟨h0,hH w hw⟩) fun x=> ?_
 refine St.and fun hx=>fun a w ha hw=>wp_mono (round x.1 x.2 hx a w ha hw) ?_
 intro ex a' w' hq
 cases ex with
 |normal=>obtain⟨y,z,h1,h2,h3,h4⟩:=hq;exact⟨(y,z),h1,h2,h3,h4⟩
 |exit id=>exact hq
 |goto l=>exact hq
 |ret=>exact hq
 |panic ch=>exact hq
 |outgrown=>exact hq
theorem St.C9 {ι κ:Type}{G:ι→κ→Fr→Fr}{Hf:ι→κ→List bQ}{φ:ι→κ→Prop}{μ:ι→κ→Nat}{k:Nat}(y:ι)(z:κ)(Aa:φ y z)(hm:μ y z<k)(hF:Sub (G y z F0) F)(hA:∀w,Mm c H w→Mm c (Hf y z) w):
 St n F (Mm c H) (wT n G F0 φ μ c Hf k):=
 fun _ w ha hw=>⟨y,z,hm,ha.sub hF,Aa,hA w hw⟩
theorem St.join {ι:Type}{p q:Code}(G:ι→Fr→Fr)(Hf:ι→List bQ)(φ:ι→Prop)(_hk:aE F F0)
 (h1:St n F (Mm c H) (p.wp P (Exit.then (Met n G F0 φ c Hf) Q))) (h2:∀y,φ y→St n (G y F0) (Mm c (Hf y)) (q.wp P Q)):
 St n F (Mm c H) ((Code.seq p q).wp P Q):=by
 intro a w ha hw;refine wp_seq (wp_mono (h1 a w ha hw) ?_);intro ex a' w' hq
 cases ex with
 |normal=>obtain⟨y,h3,h4,h5⟩:=hq;exact h2 y h4 a' w' h3 h5
 |exit id=>exact hq
 |goto l=>exact hq
 |ret=>exact hq
 |panic ch=>exact hq
 |outgrown=>exact hq
theorem St.met {ι:Type}{G:ι→Fr→Fr}{Hf:ι→List bQ}{φ:ι→Prop}(y:ι)(Aa:φ y)(hF:Sub (G y F0) F)(hA:∀w,Mm c H w→Mm c (Hf y) w):
 St n F (Mm c H) (Met n G F0 φ c Hf):=
 fun _ w ha hw=>⟨y,ha.sub hF,Aa,hA w hw⟩
theorem St.wf {α:Type}{Rr:Rp α}{xs:List α}{T:Act→World→Prop}(v:Value)[hd:sM v H α Rr xs](h:(∀x∈xs,Rr.wf x)→xs.length≤9223372036854775807→St n F (Mm c H) T):St n F (Mm c H) T:=by
 intro a w ha hw;obtain⟨ρ,hm⟩:=hw.out;obtain⟨ad,cap,_,h2,h3,h4,_⟩:=hm.sl hd;exact h h4 (by simp only[maxLen]at h3;omega) a w ha hw
theorem St.shape {α:Type}{Rr:Rp α}{xs:List α}{T:Act→World→Prop}(v:Value)[hd:sM v H α Rr xs](h:∀ad cap,v= .slice ad xs.length cap→(ad=none→xs=[])→St n F (Mm c H) T):St n F (Mm c H) T:=by
 intro a w ha hw;obtain⟨ρ,hm⟩:=hw.out;obtain⟨ad,cap,h1,_,_,_,h5⟩:=hm.sl hd;refine h ad cap h1 (fun h0=> ?_) a w ha hw
 rcases h5 with h5|⟨b,off,C,e,fr,h6,_⟩
 ·exact h5
 ·rw[h0]at h6;cases h6
theorem St.jD {T:Act→World→Prop}(e:TypeId)(size:Nat)(h:St n F (Mm c (row (.slice none 0 0) e size 0 []::H)) T):St n F (Mm c H) T:=by
 refine h.sL fun w hw=> ?_
 obtain⟨ρ,hm⟩:=hw.out;exact Mm.mk (hm.AX rfl ⟨rfl,Nat.le_refl _⟩ rfl (Nat.le_refl _) (fun _ _=>rfl) (eP.2 (World.ownsRow_nil _ _ _ _)) (fun b hb=>by rw[ef]at hb;simp[Value.ownBlock]at hb))
theorem run_equalIn_bool (k:Nat){p q:Bool}{w:World}(ht:P.underlying t=some .bool):(Op.equalIn (k+1) t (.bool p) (.bool q)).run P w= .ok (p==q) w:=by
 simp only[Op.equalIn,Sem.run_bind,run_underlying ht,Result.andThen_ok,Sem.run_pure]
theorem run_equal_bool {p q:Bool}{w:World}(ht:P.underlying t=some .bool):(Op.equal t (.bool p) (.bool q)).run P w= .ok (p==q) w:=by
 have:=run_equalIn_bool (P:=P) (w:=w) 9999 (p:=p) (q:=q) ht
 unfold Op.equal Op.maxDepth;exact this
theorem Ev.J9 {p q:Bool}{u:TypeId}(hx:aL F x (.bool p))(hy:aL F y (.bool q))(ht:P.underlying t=some .bool):Ev P n F A (.binOp .eql t x y u) ty (.bool (p==q)):= .of_run fun a w ha _=>by
 simp only[execOp,hx.eval ha,hy.eval ha,eqGuard_at_bool,binOp,Sem.run_bind,Sem.run_pure,Result.andThen_ok,run_equal_bool ht]
theorem Ev.rr {p q:Bool}{u:TypeId}(hx:aL F x (.bool p))(hy:aL F y (.bool q))(ht:P.underlying t=some .bool):Ev P n F A (.binOp .neq t x y u) ty (.bool (!(p==q))):= .of_run fun a w ha _=>by
 simp only[execOp,hx.eval ha,hy.eval ha,eqGuard_at_bool,binOp,Sem.run_bind,Sem.run_pure,Result.andThen_ok,run_equal_bool ht]
section rows
variable {size m k:Nat}{cs:List Value}
theorem eF.row {H:List bQ}{ρ:Ro}{w:World}(h:eF c H ρ w)(hr:v7 v H e size m cs):w.ownsRow 0 e size v m cs:=eP.1 (h.dF _ hr.mem)
theorem Ev.fl {e':TypeId}[hr:v7 v H e size m cs](hx:aL F x v)(ht:P.underlying t=some (.slice e')):
 Ev P n F (Mm c H) (.call {callee:= .builtin .len,args:= #[x],argTypes:= #[t]}) ty (iv m):= .of_run fun a w ha hw=>by
 obtain⟨ρ,hm⟩:=hw.out
 rcases(hm.row hr).2 with⟨rfl,rfl⟩|⟨g,cap,cur,rfl,_⟩
 ·simp[execOp,resolve,invoke,builtin,hx.eval ha,Builtin.len_,run_underlying ht,goInt]
 ·simp[execOp,resolve,invoke,builtin,hx.eval ha,Builtin.len_,run_underlying ht,goInt]
theorem Ev.cN {i:Int}{kd:IntKind}[hr:v7 v H e size m cs](hx:aL F x v)(hy:aL F y (.int kd i))(ht:P.underlying t=some (.slice e))(hs:(P.info? e).map (·.size)=some size)
 (hi:i=k) (hk:k<m):Ev P n F (Mm c H) (.indexAddr t x y) ty (e9 v size k 0):= .of_run fun a w ha hw=>by
 obtain⟨ρ,hm⟩:=hw.out
 rcases(hm.row hr).2 with⟨rfl,rfl⟩|⟨g,cap,cur,rfl,_⟩
 ·omega
 ·obtain⟨inf,p4,fD⟩:=Option.map_eq_some_iff.1 hs
  subst hi
  simp[execOp,hx.eval ha,hy.eval ha,Instr.indexAt,asIntOf,run_underlying ht,sizeOf,typeInfo,p4,fD,hk,eQ,Addr.add_lit]
theorem ma {w:World}(h:w.ownsRow 0 e size v m cs){k off:Nat}{u:Value}(hk:k<m)(hu:cs[k*size+off]?=some u):
 ∃b,e9 v size k off= .pointer (some ⟨b,k*size+off,none⟩)∧w.cell? ⟨b,k*size+off,none⟩=some u∧v.ownBlock=some b∧w.frozen? ⟨b,k*size+off,none⟩=false:=by
 obtain⟨hl,h2⟩:=h
 rcases h2 with⟨rfl,rfl⟩|⟨g,cap,cur,rfl,_,hg,yQ,uW,kp,uN⟩
 ·omega
 ·refine⟨g,by rw[eQ];simp,?_,rfl,by simp[World.frozen?,hg]⟩
  rw[cW hg];rw[←uN]at hu
  have jA:=(List.getElem?_eq_some_iff.1 hu).1
  rw[List.getElem?_take]at hu
  split at hu
  ·simpa using hu
  ·simp at hu
theorem Ev.j2 {off:Nat}{dd:TypeDesc}{u:Value}[hr:v7 v H e size m cs](hx:aL F x (e9 v size k off))(ht:P.underlying t=some dd)(lb:(match dd with| .struct _| .array _ _=>False|_=>True))
 (hk:k<m) (hu:cs[k*size+off]?=some u):Ev P n F (Mm c H) (.load t x) ty u:= .of_run fun a w ha hw=>by
 obtain⟨ρ,hm⟩:=hw.out;obtain⟨b,h1,h2,_⟩:=ma (hm.row hr) hk hu;rw[h1]at hx
 simp[execOp,hx.eval ha,Instr.loadAt,Instr.sureAddr,fN ht lb h2]
theorem Ev.F5 {off o i:Nat}{s:TypeId}[hr:v7 v H e size m cs](hx:aL F x (e9 v size k off))(hk:k<m)(ho:aq P s i=some o):Ev P n F (Mm c H) (.fieldAddr s x i) ty (e9 v size k (off+o)):= .of_run fun a w ha hw=>by
 obtain⟨ρ,hm⟩:=hw.out
 rcases(hm.row hr).2 with⟨rfl,rfl⟩|⟨g,cap,cur,rfl,_⟩
 ·omega
 ·rw[eQ]at hx
  simp[execOp,hx.eval ha,kJ ho,eQ,Addr.add_lit,Nat.add_assoc]
theorem St.dM {off:Nat}{u:Value}[tk:jR v H e size m cs R](hx:aL F x (e9 v size k off))(hy:aL F y u)(hs:(P.info? t).map (·.size)=some 1)(h1:u.oneCell'=true)
 (hk:k<m) (yO:off<size) (h:St n F (Mm c (row v e size m (cs.set (k*size+off) u)::R)) (wpList P ops Q rest)):
 St n F (Mm c H) (wpList P ops Q ({dst:=none,op:= .store t x y,type:=ty,pos:=pos,after:=after,guard:=none}::rest)):=by
 refine St.lk (K:=fun u' H'=>H'=row v e size m (cs.set (k*size+off) u)::R) ?_ ?_
 ·intro a w ρ ha hm
  have jC:=hm.perm tk.perm
  have hr:=eP.1 (jC.dF _ (List.mem_cons_self ..))
  have jA:k*size+off<cs.length:=by
   rw[hr.1]
   have:(k+1)*size≤m*size:=Nat.mul_le_mul_right _ hk
   rw[Nat.add_mul]at this;omega
  obtain⟨b,h2,h3,h4,h5⟩:=ma hr hk (List.getElem?_eq_getElem jA);rw[h2]at hx;obtain⟨i,hi,fD⟩:=Option.map_eq_some_iff.1 hs;refine⟨.skip,w.setCell ⟨b,k*size+off,none⟩ u,ρ,_,?_,⟨_,.inr ⟨rfl,rfl⟩,rfl⟩,?_⟩
  ·simp[execOp,hx.eval ha,hy.eval ha,Instr.storeAt,Instr.sureAddr,storeVar,sizeOf,typeInfo,hi,fD,aG h1,storeCells,run_store P w _ u _ h1,h3,h5,Addr.add_zero']
  ·refine jC.alter rfl ⟨rfl,Nat.le_refl _⟩ rfl (by simp) (fun j hj fj=> ?_) (eP.2 ?_) (fun b' iu=>by rw[ef]at iu⊢;exact .inl iu)
   ·rw[ef,h4]at fj
    simp only[World.setCell,Array.getElem?_modify]
    rw[if_neg (fun e=>fj (by rw[e]))]
   ·obtain⟨hl,h6⟩:=hr
    refine⟨by rw[List.length_set];exact hl,?_⟩
    rcases h6 with⟨rfl,rfl⟩|⟨g,cap,cur,rfl,JA,hg,yQ,uW,kp,uN⟩
    ·omega
    ·simp only[Value.ownBlock,Option.some.injEq]at h4
     subst h4;refine .inr ⟨_,cap,_,rfl,JA,kK hg,yQ,uW,by simp[kp],?_⟩;rw[←uN,Array.toList_setIfInBounds,List.take_set]
 ·rintro _ _ rfl
  exact h
theorem mb {i:TypeInfo}{zv:Value}{vA:Nat}(hs:(P.info? e).map (·.size)=some size)(hz:(P.info? e).bind (·.zero)=some zv)(hb:(P.info? e).map (·.bytes)=some vA)(hi:P.info? e=some i):i.size=size∧i.zero=some zv∧i.bytes=vA:=by
 rw[hi]at hs hz hb;exact⟨by simpa using hs,by simpa using hz,by simpa using hb⟩
theorem o8 {w:World}{i:TypeInfo}{zv:Value}{vA:Nat}(t ty e:TypeId)(ht:P.underlying t=some (.slice e))(hi:P.info? e=some i)(hz:i.zero=some zv)(QQ:i.size=size)(hby:i.bytes=vA)(Lu:zv.cells.size=size)(fD:0<size)
 (v:Value) (m:Nat) (cs:List Value) (rX:w.ownsRow 0 e size v m cs) (a:Addr) (k cc:Nat) (news:List Value) (hl:news.length=k*size) (qw:∀j u,news[j]?=some u→w.cell? (a.add j)=some u) (h1:∀u∈news,u.oneCell'=true)
 (CA:m+k≤maxLen) (qI:(m+k)*vA≤140737488355328):
 ∃v' w',(Builtin.append_ #[t,t] ty #[v,.slice (some a) k cc]).run P w= .ok v' w'∧w'.ownsRow 0 e size v' (m+k) (cs++news)∧w.grownBy w' v.ownBlock∧
  (v'= .slice none 0 0↔v= .slice none 0 0∧k=0)∧(∀b,v'.ownBlock=some b→v.ownBlock=some b∨w.heap.size≤b)∧w.drawn≤w'.drawn:=by
 subst QQ;subst hby;obtain⟨v',w',hr,h2,h3,h4⟩:=run_append_own (P:=P) w 0 t ty e i zv i.size i.bytes ht hi hz rfl rfl Lu fD v m cs rX a k cc news hl qw h1 CA qI (Nat.zero_le _);refine⟨v',w',hr,h2,h3,h4,?_⟩
 rcases rX.2 with⟨rfl,rfl⟩|⟨g,cap,cur,rfl,hbg,hg,hnc,hcm,kp,ab2⟩
 ·obtain⟨v'',Ln,CB,h2',_⟩:=run_append_own (P:=P) w w.heap.size t ty e i zv i.size i.bytes ht hi hz rfl rfl Lu fD (.slice none 0 0) 0 cs ⟨rX.1,.inl ⟨rfl,rfl⟩⟩ a k cc news hl qw h1 CA qI (Nat.le_refl _)
  rw[hr]at CB
  simp only[Result.ok.injEq]at CB
  obtain⟨rfl,rfl⟩:=CB;refine⟨?_,?_⟩
  ·intro b hb
   rcases h2'.2 with⟨rfl,_⟩|⟨g,cap,cur,rfl,hbg,_⟩
   ·simp[Value.ownBlock]at hb
   ·simp only[Value.ownBlock,Option.some.injEq]at hb
    subst hb;exact .inr hbg
  ·have acC:cs=[]:=by
    have:=rX.1
    simpa using this
   rcases Nat.eq_zero_or_pos k with rfl|hk
   ·have QR:news=[]:=by simpa using hl
    subst QR
    have NQ:(Builtin.append_ #[t,t] ty #[.slice none 0 0,.slice (some a) 0 cc]).run P w= .ok (.slice none 0 0) w:=by
     simp[Builtin.append_,run_underlying ht,sizeOf,typeInfo,hi,Builtin.lenOf,Builtin.firstCells,loadCells,loadCellsFrom]
    rw[hr]at NQ
    simp only[Result.ok.injEq]at NQ
    rw[NQ.2];exact Nat.le_refl _
   ·have NQ:=run_append_nil (P:=P) w t ty e i zv ht hi hz a k cc news hl qw hk (by simp only[maxLen]at CA;omega) (by have:(0+k)*i.bytes=k*i.bytes:=by rw[Nat.zero_add]
                                                                                                                     omega)
    rw[hr]at NQ
    simp only[Result.ok.injEq]at NQ
    rw[NQ.2];exact Nat.le_succ _
 ·by_cases mK:m+k≤cap
  ·have QS:m*i.size+news.length≤cur.size:=by rw[hl,kp,←Nat.add_mul];exact Nat.mul_le_mul_right _ mK
   have CB:=run_append_room (P:=P) w t ty e i ht hi g m cap cur hg a k cc news hl qw h1 mK QS
   rw[hr]at CB
   simp only[Result.ok.injEq]at CB
   obtain⟨rfl,rfl⟩:=CB;exact⟨fun b hb=> .inl hb,Nat.le_refl _⟩
  ·have holds:∀j u,cs[j]?=some u→w.cell? ((⟨g,0,none⟩:Addr).add j)=some u:=rX.cells (g:=g) rfl
   have CB:=run_append_grow (P:=P) w t ty e i zv ht hi hz ⟨g,0,none⟩ m cap cs rX.1 holds a k cc news hl qw (by omega) (by simp only[maxLen]at CA;omega) (growslice_fits (by omega) qI)
   rw[hr]at CB
   simp only[Result.ok.injEq]at CB
   obtain⟨rfl,rfl⟩:=CB;refine⟨fun b hb=> ?_,Nat.le_succ _⟩
   simp only[Value.ownBlock,Option.some.injEq]at hb
   exact .inr (by omega)
theorem St.cL {v2:Value}{m2:Nat}{news:List Value}{R1:List bQ}{zv:Value}{vA:Nat}[t2:jR v2 H e size m2 news R1][t1:jR v R1 e size m cs R]
 (hx:aL F x v) (hy:aL F y v2) (ht:P.underlying t=some (.slice e)) (hs:(P.info? e).map (·.size)=some size) (hz:(P.info? e).bind (·.zero)=some zv) (hb:(P.info? e).map (·.bytes)=some vA)
 (JB:∀u∈news,u.oneCell'=true) (hlen:m+m2≤9223372036854775807) (mK:(m+m2)*vA≤140737488355328) (Lu:zv.cells.size=size) (mY:Nat.ble 1 size=true) (fj:Nat.ble 1 m2=true) (hd:Nat.ble (d+1) n=true)
 (h:∀v',(v'= .slice none 0 0↔v= .slice none 0 0∧m2=0)→St n ((d,v')::F) (Mm c (row v' e size (m+m2) (cs++news)::R)) (wpList P ops Q rest)):
 St n F (Mm c H) (wpList P ops Q ({dst:=some d,op:= .call {callee:= .builtin .append,args:= #[x,y],argTypes:= #[t,t]},type:=ty,pos:=pos,after:=after,guard:=none}::rest)):=by
 refine St.Eg (K:=fun v' H'=>(v'= .slice none 0 0↔v= .slice none 0 0∧m2=0)∧H'=row v' e size (m+m2) (cs++news)::R) ?_ hd ?_
 ·intro a w ρ ha hm
  have wV:=hm.perm t2.perm
  have Ei:=eP.1 (wV.dF _ (List.mem_cons_self ..))
  have qJ:=wV.drop.perm t1.perm
  have hr:=eP.1 (qJ.dF _ (List.mem_cons_self ..))
  have Wy:=Nat.le_of_ble_eq_true fj
  obtain⟨i,hi,fD⟩:=Option.map_eq_some_iff.1 hs;obtain⟨q1,q2,q3⟩:=mb hs hz hb hi
  rcases Ei.2 with⟨_,rfl⟩|⟨g2,Ac,QT,rfl,_,QU,yQ,uW,QV,F6⟩
  ·omega
  ·obtain⟨v',w',sP,how,F7,NR,Wz,jB⟩:=o8 (P:=P) (w:=w) t ty e ht hi q2 q1 q3 Lu (Nat.le_of_ble_eq_true mY) v m cs hr ⟨g2,0,none⟩ m2 Ac news Ei.1
    (fun j u hj=>by
     rw[Addr.add_lit,Nat.zero_add,cW QU];rw[←F6,List.getElem?_take]at hj
     split at hj
     ·simpa using hj
     ·simp at hj) JB (by unfold maxLen;omega) mK
   refine⟨.value v',w',ρ,_,?_,⟨_,.inl rfl,NR,rfl⟩,?_⟩
   ·simp[execOp,resolve,invoke,builtin,hx.eval ha,hy.eval ha,sP]
   ·refine qJ.alter F7.os ⟨F7.tape,jB⟩ F7.output F7.size (fun j hj fj=> ?_) (eP.2 how) (fun b' iu=> ?_)
    ·rw[ef]at fj;exact F7.block j hj (fun e=>fj e.symm)
    ·rw[ef]at iu⊢;exact Wz b' iu
 ·rintro _ _ ⟨h1,rfl⟩
  exact h _ h1
theorem sQ {α:Type}(Rr:Rp α)(xs:List α):∀u∈rows Rr xs,u.oneCell'=true:=by
 intro u hu
 simp only[rows,List.mem_flatMap]at hu
 obtain⟨x,_,hx⟩:=hu;exact Rr.one x u hx
theorem St.gL {zv:Value}{vA:Nat}{i j:Int}{kl kc:IntKind}{m:Nat}(hx:aL F x (.int kl i))(hy:aL F y (.int kc j))(ht:P.underlying t=some (.slice e))(hs:(P.info? e).map (·.size)=some 1)(hz:(P.info? e).bind (·.zero)=some zv)(hb:(P.info? e).map (·.bytes)=some vA)
 (hm:i=m) (qJ:j=m) (mK:vA*m≤281474976710656∧m≤9223372036854775807) (h1:zv.cells= #[zv]) (hd:Nat.ble (d+1) n=true)
 (h:∀b,St n ((d,.slice (some ⟨b,0,none⟩) m m)::F) (Mm c (row (.slice (some ⟨b,0,none⟩) m m) e 1 m (List.replicate m zv)::H)) (wpList P ops Q rest)):
 St n F (Mm c H) (wpList P ops Q ({dst:=some d,op:= .makeSlice t x y,type:=ty,pos:=pos,after:=after,guard:=none}::rest)):=by
 subst hm qJ;refine St.Eg (K:=fun u H'=>∃b,u= .slice (some ⟨b,0,none⟩) m m∧H'=row (.slice (some ⟨b,0,none⟩) m m) e 1 m (List.replicate m zv)::H) ?_ hd ?_
 ·intro a w ρ ha sN
  obtain⟨i,hi,fD⟩:=Option.map_eq_some_iff.1 hs;obtain⟨q1,q2,q3⟩:=mb hs hz hb hi
  have sP:=run_make (P:=P) w t e i zv ht hi q2 kl kc m m (by omega) (by omega) (by rw[q3,←Int.natCast_mul];exact Int.ofNat_le.2 mK.1) (by omega)
  have sR:madeCells zv.cells (m*i.size)=(List.replicate m zv).toArray:=by
   rw[q1,h1]
   apply Array.ext
   ·simp[madeCells]
   ·intro k lb Eh
    simp[madeCells,Nat.mod_one]
  simp only[Int.toNat_natCast,sR]at sP
  refine⟨.value (.slice (some ⟨w.heap.size,0,none⟩) m m),w.alloc (.cells (List.replicate m zv).toArray e),ρ,_,?_,⟨_,.inl rfl,_,rfl,rfl⟩,?_⟩
  ·simp[execOp,hx.eval ha,hy.eval ha,sP]
  ·refine sN.AX rfl ⟨rfl,Nat.le_refl _⟩ rfl (by simp) (fun k hk=>RowKit.Below.heap_alloc w _ k hk) (eP.2 ⟨by simp,.inr ⟨w.heap.size,m,_,rfl,Nat.zero_le _,heap_alloc_new w _,Nat.le_refl _,by unfold maxLen;omega,by simp,by simp⟩⟩) ?_
   intro b hb;rw[ef]at hb;simp[Value.ownBlock]at hb;omega
 ·rintro _ _ ⟨b,rfl,rfl⟩
  exact h b
theorem eF.aU {α:Type}(Rr:Rp α)(xs:List α){H:List bQ}{ρ:Ro}{w:World}(h:eF c (J.row v e Rr.size m cs::H) ρ w)(kp:cs=rows Rr xs)(hm:m=xs.length)(oQ:∀x∈xs,Rr.wf x):Mm c (J.aF (J.sl Rr v xs)::H) w:=by
 subst kp hm
 have hr:=eP.1 (h.dF _ (List.mem_cons_self ..))
 rcases hr.2 with⟨rfl,h0⟩|⟨g,cap,cur,rfl,_,hg,yQ,uW,kp,uN⟩
 ·have hx:xs=[]:=List.eq_nil_of_length_eq_zero h0
  subst hx;exact Mm.mk (h.drop.fact _ ⟨none,0,rfl,Nat.le_refl _,by unfold maxLen;omega,fun x hx=>by simp at hx,.inl rfl⟩)
 ·have AY:(J.row (Value.slice (some ⟨g,0,none⟩) xs.length cap) e Rr.size xs.length (rows Rr xs)).key=some g:=by rw[ef];rfl
  have rX:=h.own _ (List.mem_cons_self ..) g AY
  have CC:g<w.heap.size:=(Array.getElem?_eq_some_iff.1 hg).1
  have F1:=List.pairwise_cons.1 h.C8
  refine Mm.mk (ρ:=fun k=>if k=g then some (.cells cur e (0,0))else ρ k) ?_
  have hle:Ro.le ρ (fun k=>if k=g then some (.cells cur e (0,0))else ρ k):=by
   intro k o hk
   by_cases e1:k=g
   ·subst e1;rw[rX.1]at hk;cases hk
   ·simp only[e1,if_false];exact hk
  refine eF.fact ⟨h.os,h.tape,h.output,h.size,h.AU,?_,Ro.le_trans h.le hle,?_,?_,?_,F1.2⟩ _ ?_
  ·intro k o hk
   by_cases e1:k=g
   ·subst e1;simp only[if_true,Option.some.injEq]at hk;subst hk;exact hg
   ·simp only[e1,if_false]at hk;exact h.fits k o hk
  ·intro k hk hM
   by_cases e1:k=g
   ·subst e1
    rcases rX.2 with h2|h2
    ·omega
    ·exact absurd h2 hM
   ·simp only[e1,if_false];exact h.new k hk hM
  ·intro E hE
   exact E.loc hle (fun _ _=>rfl) (h.dF E (List.mem_cons_of_mem _ hE))
  ·intro E hE b hb
   have h1:=h.own E (List.mem_cons_of_mem _ hE) b hb
   refine⟨?_,h1.2⟩
   by_cases e1:b=g
   ·subst e1;exact absurd hb (F1.1 E hE _ AY)
   ·simp only[e1,if_false];exact h1.1
  ·refine⟨some ⟨g,0,none⟩,cap,rfl,yQ,uW,oQ,?_⟩
   refine .inr ⟨g,0,cur,e,(0,0),rfl,by simp,fun j u hj=> ?_⟩;rw[←uN,List.getElem?_take]at hj
   split at hj
   ·simpa using hj
   ·simp at hj
theorem St.aU {α:Type}{T:Act→World→Prop}(v:Value)(Rr:Rp α)(xs:List α)[tk:jR v H e Rr.size m cs R](kp:cs=rows Rr xs)(hm:m=xs.length)(oQ:∀x∈xs,Rr.wf x)
 (h:St n F (Mm c (aF (sl Rr v xs)::R)) T):St n F (Mm c H) T:=
 h.sL fun _ hw=>let⟨_,k⟩:=hw.out;(k.perm tk.perm).aU Rr xs kp hm oQ
end rows
end
section
variable {P:Program}{ops:Array Oper}{C:World→Prop}{Q:Exit→Act→World→Prop}
def wW (k:Nat)(listed:Array Bool)(N:Nat):Prop:=listed.size=N∧∀j,j<N→listed[j]?=some (decide (j<k))
theorem wW.getD {k N:Nat}{listed:Array Bool}(h:wW k listed N)(j:Nat)(d:Bool)(hj:j<N):listed.getD j d=decide (j<k):=by
 rw[Array.getD_eq_getD_getElem?,h.2 j hj];rfl
theorem wW.out {k N:Nat}{listed:Array Bool}(h:wW k listed N)(j:Nat)(d:Bool)(hj:N≤j):listed.getD j d=d:=by
 rw[Array.getD_eq_getD_getElem?,Array.getElem?_eq_none (by rw[h.1];exact hj)];rfl
theorem wW.set {k N:Nat}{listed:Array Bool}(h:wW k listed N):wW (k+1) (listed.setIfInBounds k true) N:=by
 refine⟨by simp[h.1],fun j hj=> ?_⟩;rw[Array.getElem?_setIfInBounds]
 by_cases e:k=j
 ·subst e;simp[h.1,hj]
 ·rw[if_neg e,h.2 j hj];congr 1
  rw[Bool.eq_iff_iff];simp only[decide_eq_true_eq];omega
theorem uX {DN:Array Oper}{listed:Array Bool}(hs:listed.size=DN.size)(hE:∀(i:Nat) (o:Oper),DN[i]?=some o→∀e∈o.after,e.on<i)(hu:∃i,i<DN.size∧listed.getD i true=false):Region.ready .any DN listed≠ []:=by
 obtain⟨i,hi⟩:=exists_least hu;obtain⟨⟨Vk,Vl⟩,XA⟩:=hi;intro h0
 have:i∈Region.ready .any DN listed:=by
  refine mem_ready.2 ⟨Vl,DN[i],Array.getElem?_eq_getElem Vk,fun e he _=> ?_⟩
  have h1:=hE i _ (Array.getElem?_eq_getElem Vk) e he
  have jA:e.on<listed.size:=by omega
  cases hl:listed.getD e.on true with
  |false=>
   have:=XA e.on ⟨by omega,hl⟩
   omega
  |true=>rw[Array.getD_eq_getD_getElem?,Array.getElem?_eq_getElem jA]at hl⊢;exact hl
 rw[h0]at this
 cases this
theorem St.any {n:Nat}{F:Fr}{A:World→Prop}{id:Nat}{l:List Oper}(hm:P.follows .mixedOrders=true)(hA:Ey A)
 (h:St n F A (wpAny P .any l.toArray Q l.length (Array.replicate l.length false))):St n F A ((Code.region id l.toArray true).wp P Q):=
 fun a w ha hw=>wp_region_any hm (by simpa using h a _ ha (hA w hw))
theorem St.one {n:Nat}{F:Fr}{A:World→Prop}{i:Nat}{o:Oper}{K:Act→World→Prop}(ho:ops[i]?=some o)(h:St n F A (wpList P ops (Exit.then K Q) [o])):St n F A (wpOp P ops Q i K):=by
 intro a w ha hw
 have h1:=h a w ha hw
 unfold wpOp;rw[ho]
 simp only[wpList]at h1
 simp only
 split
 ·rename_i qE
  simp only[qE,if_true]at h1
  rcases h1 with h1|⟨h1,a0,w0,h2⟩
  ·refine .inl ?_
   unfold Oper.wp at h1⊢
   generalize (execOp a.eval o).run P w=r at h1⊢
   cases r with
   |ok nx w'=>
    cases nx<;>simp only[Oper.upon]at h1⊢ <;>
     first
      |exact h1
      |exact Calls.mono h1 (fun e Ln he=>by cases e<;>exact he)
      |exact Rows.mono h1 (fun _ _ he=>he)
   |halt x w'=>cases x<;>simp only[Oper.upon]at h1⊢ <;>exact h1
  ·exact .inr ⟨h1,a0,w0,h2⟩
 ·rename_i qE
  simp only[qE]at h1
  exact h1
end
def DP (b:Nat)(v:Value):df where
 f ρ:=∃C e fr,ρ b=some (.cells C e fr)∧C[0]?=some v
 mono ρ iK h:=by
  rintro ⟨C,e,fr,h1,h2⟩;exact⟨C,e,fr,h _ _ h1,h2⟩
class p5 (b:Nat)(H:List bQ)(v:outParam Value):Prop where
 mem:aF (DP b v)∈H
instance (priority:=high) p5.here (b:Nat)(v:Value)(H:List bQ):p5 b (aF (DP b v)::H) v:=⟨List.mem_cons_self ..⟩
instance p5.there (b:Nat)(v:Value)(E:bQ)(H:List bQ)[h:p5 b H v]:p5 b (E::H) v:=⟨List.mem_cons_of_mem _ h.mem⟩
def all (w:World):Ro:=fun k=>w.heap[k]?
theorem eF.NS {c:Ctx}{H:List bQ}{ρ:Ro}{w:World}(h:eF c H ρ w):Ro.le ρ (J.all w):=fun k o hk=>h.fits k o hk
def fV (c:Ctx)(H:List bQ)(ds:List df):Prop:=∀ρ w,eF c H ρ w→∀d∈ds,d.f (J.all w)
section
variable {c:Ctx}{H R:List bQ}{ds:List df}{v:Value}
theorem fV.nil:fV c H []:=fun _ _ _ _ h=>by simp at h
theorem fV.aF {d:df}(h:fV c H ds)[hd:jW d H]:fV c H (d::ds):=fun ρ w hm d' lJ=>by
 rcases List.mem_cons.1 lJ with rfl|lJ
 ·exact d'.mono _ _ hm.NS (hm.aF hd)
 ·exact h ρ w hm d' lJ
theorem vB {α:Type}{Rr:Rp α}{xs:List α}{e:TypeId}{m:Nat}{cs:List Value}{w:World}(h:w.ownsRow 0 e Rr.size v m cs)(kp:cs=rows Rr xs)(hm:m=xs.length)(oQ:∀x∈xs,Rr.wf x):(sl Rr v xs).f (J.all w):=by
 subst kp hm
 rcases h.2 with⟨rfl,h0⟩|⟨g,cap,cur,rfl,_,hg,yQ,uW,kp,uN⟩
 ·have hx:xs=[]:=List.eq_nil_of_length_eq_zero h0
  subst hx;exact⟨none,0,rfl,Nat.le_refl _,by unfold maxLen;omega,fun x hx=>by simp at hx,.inl rfl⟩
 ·refine⟨some ⟨g,0,none⟩,cap,rfl,yQ,uW,oQ,.inr ⟨g,0,cur,e,(0,0),rfl,hg,fun j u hj=> ?_⟩⟩
  rw[←uN,List.getElem?_take]at hj
  split at hj
  ·simpa using hj
  ·simp at hj
theorem fV.row {α:Type}{Rr:Rp α}{xs:List α}{e:TypeId}{size m:Nat}{cs:List Value}(h:fV c H ds)[hr:v7 v H e size m cs](fD:size=Rr.size)(kp:cs=rows Rr xs)(hm:m=xs.length)(oQ:∀x∈xs,Rr.wf x):fV c H (sl Rr v xs::ds):=fun ρ w sN d' lJ=>by
 subst fD
 rcases List.mem_cons.1 lJ with rfl|lJ
 ·exact vB (sN.row hr) kp hm oQ
 ·exact h ρ w sN d' lJ
theorem fV.ae {b:Nat}{u:Value}{e:TypeId}{fr:Nat×Nat}{L:List Value}(h:fV c H ds)[hb:jm b H (.cells (u::L).toArray e fr)]:fV c H (DP b u::ds):=fun ρ w sN d' lJ=>by
 rcases List.mem_cons.1 lJ with rfl|lJ
 ·exact⟨_,e,fr,eO.1 (sN.dF _ hb.mem),by simp⟩
 ·exact h ρ w sN d' lJ
def mc (H:List bQ):Prop:=∀E∈H,∀ρ iK w,E.ok ρ w→E.ok iK w
theorem mc.nil:mc []:=fun _ h=>by simp at h
theorem mc.row {H:List bQ}{e:TypeId}{size m:Nat}{cs:List Value}(h:mc H):mc (J.row v e size m cs::H):=fun E hE ρ iK w k=>by
 rcases List.mem_cons.1 hE with rfl|hE
 ·exact eP.2 (eP.1 k)
 ·exact h E hE ρ iK w k
theorem mc.ae {H:List bQ}{b:Nat}{o:Obj}(h:mc H):mc (J.ae b o::H):=fun E hE ρ iK w k=>by
 rcases List.mem_cons.1 hE with rfl|hE
 ·exact eO.2 (eO.1 k)
 ·exact h E hE ρ iK w k
theorem iX (ds:List df)(b:Nat):¬km (ds.map aF) b:=by
 rintro ⟨E,hE,hb⟩;obtain⟨d,_,rfl⟩:=List.mem_map.1 hE
 rw[lj]at hb;cases hb
theorem Mm.QW {dr:Prop}{P:Program}{f:FuncId}{args:Array Value}{post:Value→List bQ→Prop}(hc:DJ dr P f args (ds.map J.aF) post)(jB:c.dr→dr)(hl:fV c H ds)(hs:∀v H',post v H'→mc H'){w:World}(hm:Mm c H w):
 Calls P f args w fun e w'=>∃v H',e= .returned v∧post v H'∧Mm c (H'++H) w':=by
 obtain⟨ρ,hm⟩:=hm.out
 have st:Start (ds.map J.aF) (J.all w) w:=
  ⟨rfl,⟨rfl,fun _=>Nat.le_refl _⟩,rfl,Nat.le_refl _,fun _ _ _=>rfl,fun _ _ h=>h,Ro.le_refl _,fun _ _ _=>rfl,fun E hE=>by
   obtain⟨d,hd,rfl⟩:=List.mem_map.1 hE;exact dV.2 (hl ρ w hm d hd),
   (fun E hE b hb=>by
    obtain⟨d,hd,rfl⟩:=List.mem_map.1 hE
    rw[lj]at hb;cases hb),
   by
    refine List.pairwise_map.2 (List.Pairwise.imp_of_mem (R:=fun _ _=>True) ?_ (List.pairwise_of_forall fun _ _=>trivial));intro d d' _ _ _ b hb
    rw[lj]at hb;cases hb⟩
 refine(hc w (J.all w) st).mono ?_;rintro e w' ⟨v,H',he,hp,jC⟩;obtain⟨iK,jC⟩:=jC.out;refine⟨v,H',he,hp,?_⟩
 have hold:∀k,k<w.heap.size→w'.heap[k]?=w.heap[k]?:=fun k hk=>jC.AU k hk (iX ds k)
 have JC:∀E∈H',∀b,E.key=some b→w.heap.size≤b:=fun E hE b hb=>by
  rcases(jC.own E hE b hb).2 with h1|h1
  ·exact h1
  ·exact absurd h1 (iX ds b)
 refine Mm.mk (ρ:=ρ) ?_
 have h0:eF c ([]++H) ρ w:=hm
 refine eF.step h0 ⟨jC.os,⟨jC.tape.1,fun q=>jC.tape.2 (jB q)⟩,jC.output,jC.size,fun k hk _=>hold k hk,fun k o hk=> ?_,Ro.le_refl _,fun _ _ _=>rfl,fun E hE=>hs v H' hp E hE iK ρ w' (jC.dF E hE),?_,jC.C8⟩
 ·rw[hold k (hm.Lo hk)];exact hm.fits k o hk
 ·intro E hE b hb
  refine⟨?_,.inl (JC E hE b hb)⟩
  cases hr:ρ b with
  |none=>rfl
  |some o=>have h1:=hm.Lo hr;have h2:=JC E hE b hb;omega
theorem Mm.XB {P:Program}{f:FuncId}{args:Array Value}{post:Value→List bQ→Prop}(hc:fC P f args (ds.map J.aF) post)(hl:fV c H ds)(hs:∀v H',post v H'→mc H'){w:World}(hm:Mm c H w):
 Calls P f args w fun e w'=>∃v H',e= .returned v∧post v H'∧Mm c (H'++H) w':=Mm.QW hc.gen (fun _=>trivial) hl hs hm
end
section
variable {P:Program}{n:Nat}{F:Fr}{A:World→Prop}{c:Ctx}{H R:List bQ}{ty:TypeId}{x y z:Operand}{v:Value}{Q:Exit→Act→World→Prop}{ops:Array Oper}{rest:List Oper}
 {d:Nat} {pos:String} {after:Array Edge} {t e:TypeId}
theorem Ev.Lv {b:Nat}{u:Value}{dd:TypeDesc}[hc:p5 b H u](hx:aL F x (.pointer (some ⟨b,0,none⟩)))(ht:P.underlying t=some dd)(lb:(match dd with| .struct _| .array _ _=>False|_=>True)):
 Ev P n F (Mm c H) (.load t x) ty u:= .of_run fun a w ha hw=>by
 obtain⟨ρ,hm⟩:=hw.out;obtain⟨C,e,fr,h1,h2⟩:=dV.1 (hm.dF _ hc.mem)
 simp[execOp,hx.eval ha,Instr.loadAt,Instr.sureAddr,fN ht lb ((cW (hm.fits _ _ h1)).trans h2)]
theorem Ev.kr {f:FuncId}{xs:List Operand}{uV:Array TypeId}{vs caps:List Value}{ds:List df}(hc:cz P f (vs++caps).toArray ds v)(wS:aW P f)(hf:aL F x (.func (.func f) #[] caps.toArray))(hx:aV F xs vs)(hl:fV c H ds):
 Ev P n F (Mm c H) (.call {callee:= .value x,args:=xs.toArray,argTypes:=uV}) ty v:=by
 intro a w ha hw;rw[lL wS (aV.cons hf hx) ha w]
 simp only[Oper.quietUpon,true_and]
 refine(Mm.XB (post:=fun u H'=>u=v∧H'=[]) (fun w ρ hs=>(hc w ρ hs).mono fun e w' ⟨u,H',h1,h2,h3⟩=>⟨u,[],h1,⟨h2,rfl⟩,?_⟩) hl (fun _ _ h=>by rw[h.2];exact mc.nil) hw).mono ?_
 ·obtain⟨iK,h3⟩:=h3.out
  exact Mm.mk (eF.left (L:=[]) h3)
 ·rintro e w' ⟨u,H',rfl,⟨rfl,rfl⟩,hm⟩
  exact⟨rfl,hm⟩
@[irreducible] def ou (v:Value)(size l h:Nat):Value:=
 match v with
 | .slice a _ cap=> .slice (if cap=l then a else a.map (·.add (l*size))) (h-l) (cap-l)
 |_=>undef
theorem iY (a:Option Addr)(m cap size l h:Nat):ou (.slice a m cap) size l h= .slice (if cap=l then a else a.map (·.add (l*size))) (h-l) (cap-l):=by unfold ou;rfl
theorem JD {α:Type}{Rr:Rp α}{xs:List α}{l h:Nat}{ρ:Ro}(hs:(sl Rr v xs).f ρ)(hl:l≤h)(hh:h≤xs.length):(sl Rr (ou v Rr.size l h) ((xs.drop l).take (h-l))).f ρ:=by
 obtain⟨a,cap,rfl,h2,h3,h4,h5⟩:=hs
 have hlen:((xs.drop l).take (h-l)).length=h-l:=by simp;omega
 refine⟨if cap=l then a else a.map (·.add (l*Rr.size)),cap-l,by rw[iY,hlen],by omega,by omega,fun x hx=>h4 x (List.mem_of_mem_drop (List.mem_of_mem_take hx)),?_⟩
 by_cases h0:(xs.drop l).take (h-l)=[]
 ·exact .inl h0
 ·right
  have jA:l<h:=by
   rcases Nat.lt_or_ge l h with h6|h6
   ·exact h6
   ·exact absurd (by rw[show h-l=0 by omega];rfl) h0
  have JE:cap≠l:=by omega
  rcases h5 with rfl|⟨b,off,C,e,fr,rfl,h6,h7⟩
  ·simp at hh;omega
  ·refine⟨b,off+l*Rr.size,C,e,fr,by rw[if_neg JE];simp[Addr.add_lit],h6,fun j u hj=> ?_⟩
   rw[Nat.add_assoc]
   apply h7
   -- the cells of the part are the cells of the whole,from there on
   have key:∀(ys:List α) (l:Nat),l≤ys.length→rows Rr ys=rows Rr (ys.take l)++rows Rr (ys.drop l):=fun ys l _=>by
    unfold rows;rw[←List.flatMap_append,List.take_append_drop]
   have k1:=key xs l (by omega)
   have k2:=key (xs.drop l) (h-l) (by simp;omega)
   have e1:(xs.take l).length=l:=by simp;omega
   rw[k1,List.getElem?_append_right (by rw[dw,e1];omega),dw,k2];rw[e1,show l*Rr.size+j-l*Rr.size=j by omega]
   have DQ:=(List.getElem?_eq_some_iff.1 hj).1
   rw[List.getElem?_append_left DQ];exact hj
theorem St.part {α:Type}{Rr:Rp α}{xs:List α}{T:Act→World→Prop}(v:Value)(l h:Nat)[hd:sM v H α Rr xs](hl:l≤h)(hh:h≤xs.length)
 (k:St n F (Mm c (aF (sl Rr (ou v Rr.size l h) ((xs.drop l).take (h-l)))::H)) T):St n F (Mm c H) T:=
 St.fact _ (fun _ _ hm=>JD (hm.sl hd) hl hh) k
theorem Ev.nR {α:Type}{Rr:Rp α}{xs:List α}{j:Int}{h:Nat}{kj:IntKind}{hi:Operand}[hd:sM v H α Rr xs](hx:aL F x v)(NT:aL F hi (.int kj j))(ht:P.underlying t=some (.slice e))(hs:(P.info? e).map (·.size)=some Rr.size)
 (hj:j=h) (hh:h≤xs.length):Ev P n F (Mm c H) (.slice t x none (some hi) none) ty (ou v Rr.size 0 h):= .of_run fun a w ha hw=>by
 obtain⟨ρ,hm⟩:=hw.out;obtain⟨ad,cap,rfl,h2,_⟩:=hm.sl hd;obtain⟨inf,p4,fD⟩:=Option.map_eq_some_iff.1 hs;subst hj
 have b1:(0:Int)≤(h:Int)∧(h:Int)≤(cap:Int):=by omega
 simp only[execOp,hx.eval ha,NT.eval ha,Option.map_some,Option.map_none,Instr.sliceAt,Instr.slice,Instr.sliceBounds,Instr.sliceBound,asIntOf,Sem.run_bind,run_underlying ht,Result.andThen_ok,Sem.run_pure,b1,and_self,if_true,Int.toNat_natCast,sizeOf,typeInfo,run_program,p4,fD,iY]
theorem St.QX {size m:Nat}{cs QY:List Value}{T:Act→World→Prop}(v:Value)[tk:jR v H e size m cs R](h:cs=QY)(k:St n F (Mm c (row v e size m QY::R)) T):St n F (Mm c H) T:=by
 subst h
 exact k.sL fun _ hw=>let⟨_,q⟩:=hw.out;Mm.mk (q.perm tk.perm)
theorem St.bB {size m m':Nat}{cs QY:List Value}{T:Act→World→Prop}(v:Value)[tk:jR v H e size m cs R](hm:m=m')(h:cs=QY)(k:St n F (Mm c (row v e size m' QY::R)) T):St n F (Mm c H) T:=by
 subst h hm
 exact k.sL fun _ hw=>let⟨_,q⟩:=hw.out;Mm.mk (q.perm tk.perm)
theorem vC {α:Type}{Rr:Rp α}(h1:Rr.size=1){u:Value}{x:α}(hx:Rr.cells x=[u]):∀(xs:List α) (k:Nat),(rows Rr xs).set k u=rows Rr (xs.set k x)
 | [],_=>by simp[rows]
 |y::xs,0=>by
  have:=Rr.len y
  rw[h1]at this
  obtain⟨v,hv⟩:∃v,Rr.cells y=[v]:=by
   match hc:Rr.cells y,this with
   | [v],_=>exact⟨v,rfl⟩
  simp[rows,hv,hx]
 |y::xs,k+1=>by
  have:=Rr.len y
  rw[h1]at this
  obtain⟨v,hv⟩:∃v,Rr.cells y=[v]:=by
   match hc:Rr.cells y,this with
   | [v],_=>exact⟨v,rfl⟩
  have ih:=vC h1 hx xs k
  simp only[rows,List.flatMap_cons,hv,List.singleton_append,List.set_cons_succ]at ih⊢
  rw[ih]
theorem cl {α:Type}(Rr:Rp α)(xs:List α)(x:α):rows Rr (xs++ [x])=rows Rr xs++Rr.cells x:=by simp[rows]
end
instance (priority:=high) jS.self (L:List bQ):jS L L []:=⟨by simp⟩
open Classical in
noncomputable def sS (L:List bQ) (w:World):Ro:=fun k=>if km L k then none else w.heap[k]?
def kL (c:Ctx)(L R:List bQ)(ds:List df):Prop:=∀ρ w,eF c (L++R) ρ w→∀d∈ds,d.f (sS L w)
section
variable {c:Ctx}{L R:List bQ}{ds:List df}{v:Value}
theorem eF.NU {ρ:Ro}{w:World}(h:eF c (L++R) ρ w):Ro.le ρ (sS L w):=fun k o hk=>by
 unfold sS;rw[if_neg]
 ·exact h.fits k o hk
 ·rintro ⟨E,hE,hb⟩
  have:=(h.own E (List.mem_append_left _ hE) k hb).1
  rw[hk]at this;cases this
theorem vD {ρ:Ro}{w:World}(h:eF c (L++R) ρ w){E:bQ}(hE:E∈R){b:Nat}(hb:E.key=some b):sS L w b=w.heap[b]?:=by
 unfold sS;rw[if_neg];rintro ⟨E',AF,iu⟩;exact(List.pairwise_append.1 h.C8).2.2 E' AF E hE b iu hb
theorem kL.nil:kL c L R []:=fun _ _ _ _ h=>by simp at h
theorem kL.aF {d:df}(h:kL c L R ds)[hd:jW d R]:kL c L R (d::ds):=fun ρ w hm d' lJ=>by
 rcases List.mem_cons.1 lJ with rfl|lJ
 ·exact d'.mono _ _ hm.NU (dV.1 (hm.dF _ (List.mem_append_right _ hd.mem)))
 ·exact h ρ w hm d' lJ
theorem kL.row {α:Type}{Rr:Rp α}{xs:List α}{e:TypeId}{size m:Nat}{cs:List Value}(h:kL c L R ds)[hr:v7 v R e size m cs](fD:size=Rr.size)(kp:cs=rows Rr xs)(hm:m=xs.length)(oQ:∀x∈xs,Rr.wf x):kL c L R (sl Rr v xs::ds):=fun ρ w sN d' lJ=>by
 subst fD
 rcases List.mem_cons.1 lJ with rfl|lJ
 ·have XC:=eP.1 (sN.dF _ (List.mem_append_right _ hr.mem))
  obtain⟨a,cap,h1,h2,h3,h4,h5⟩:=vB (w:=w) XC kp hm oQ;refine⟨a,cap,h1,h2,h3,h4,?_⟩
  rcases h5 with h5|⟨b,off,C,e',fr,rfl,h6,h7⟩
  ·exact .inl h5
  ·refine .inr ⟨b,off,C,e',fr,rfl,?_,h7⟩
   rw[vD sN hr.mem (b:=b) (by rw[ef,h1];rfl)];exact h6
 ·exact h ρ w sN d' lJ
theorem kL.ae {b:Nat}{u:Value}{e:TypeId}{fr:Nat×Nat}{l:List Value}(h:kL c L R ds)[hb:jm b R (.cells (u::l).toArray e fr)]:kL c L R (DP b u::ds):=fun ρ w sN d' lJ=>by
 rcases List.mem_cons.1 lJ with rfl|lJ
 ·refine⟨(u::l).toArray,e,fr,?_,rfl⟩
  rw[vD sN hb.mem (b:=b) (fK _ _)];exact eO.1 (sN.dF _ (List.mem_append_right _ hb.mem))
 ·exact h ρ w sN d' lJ
end
section
variable {P:Program}{n:Nat}{F:Fr}{A:World→Prop}{c:Ctx}{H R:List bQ}{ty:TypeId}{x y z:Operand}{v:Value}{Q:Exit→Act→World→Prop}{ops:Array Oper}{rest:List Oper}
 {d:Nat} {pos:String} {after:Array Edge} {t e:TypeId}
theorem St.split {T:Act→World→Prop}(k:Nat)(b:Bool)(hk:look F k=some (.bool b))(ht:b=true→St n ((k,.bool true)::F) A T)(hf:b=false→St n ((k,.bool false)::F) A T):St n F A T:=by
 intro a w ha hw
 have key:∀u,u=Value.bool b→Has n a ((k,u)::F):=fun u hu=>⟨ha.size,ha.defers,fun t v hv=>by
  simp only[look]at hv
  cases hb:Nat.beq t k with
  |true=>
   have e:t=k:=Nat.eq_of_beq_eq_true hb
   subst e
   simp only[hb,cond_true,Option.some.injEq]at hv
   subst hv
   rw[hu];exact ha.slot _ _ hk
  |false=>simp only[hb,cond_false]at hv;exact ha.slot _ _ hv⟩
 cases hb:b with
 |true=>exact ht hb a w (key _ (by rw[hb])) hw
 |false=>exact hf hb a w (key _ (by rw[hb])) hw
theorem St.qx {j dj:Nat}{want:Bool}{op:Op}(hj:(ops[j]?).bind (·.dst)=some dj)(hl:look F dj=some (.bool (!want)))(hd:Nat.ble (d+1) n=true)
 (h:St n ((d,undef)::F) A (wpList P ops Q rest)):St n F A (wpList P ops Q ({dst:=some d,op:=op,type:=ty,pos:=pos,after:=after,guard:=some (j,want)}::rest)):=by
 intro a w ha hw
 have qE:=lI (l:=ops) (c:=false) (o:={dst:=some d,op:=op,type:=ty,pos:=pos,after:=after,guard:=some (j,want)}) rfl hj (ha.slot _ _ hl) ⟨(fun h=>by cases h),fun _=> .inl rfl⟩
 simp only[wpList,qE]
 exact h _ w (ha.put (Nat.le_of_ble_eq_true hd) undef) hw
theorem St.bz {j dj:Nat}{want:Bool}{op:Op}{dd:Option Tmp}(hj:(ops[j]?).bind (·.dst)=some dj)(hl:look F dj=some (.bool want))
 (h:St n F A (wpList P ops Q ({dst:=dd,op:=op,type:=ty,pos:=pos,after:=after,guard:=none}::rest))):
 St n F A (wpList P ops Q ({dst:=dd,op:=op,type:=ty,pos:=pos,after:=after,guard:=some (j,want)}::rest)):=by
 intro a w ha hw
 have qE:=lI (l:=ops) (c:=true) (o:={dst:=dd,op:=op,type:=ty,pos:=pos,after:=after,guard:=some (j,want)}) rfl hj (ha.slot _ _ hl) ⟨fun _=>rfl,(fun h=>by cases h)⟩
 have h1:=h a w ha hw
 simp only[wpList,qE,if_true]
 simp only[wpList,Region.wanted,if_true]at h1
 rcases h1 with h1|⟨h1,h2⟩
 ·left
  unfold Oper.wp Oper.upon at h1⊢;rw[fk]at h1⊢;exact h1
 ·right
  refine⟨?_,h2⟩;unfold Oper.asks at h1⊢;rw[fk]at h1⊢;exact h1
section rows
variable {size m:Nat}{cs:List Value}
theorem St.dm {T:Act→World→Prop}(v:Value)[hr:v7 v H e size m cs](h:v.oneCell'=true→cs.length=m*size→St n F (Mm c H) T):St n F (Mm c H) T:=by
 intro a w ha hw;obtain⟨ρ,hm⟩:=hw.out
 have h1:=hm.row hr
 refine h ?_ h1.1 a w ha hw
 rcases h1.2 with⟨rfl,_⟩|⟨g,cap,cur,rfl,_⟩<;>rfl
theorem Ev.oS {j:Int}{h:Nat}{kj:IntKind}{hi:Operand}[hr:v7 v H e size m cs](hx:aL F x v)(NT:aL F hi (.int kj j))(ht:P.underlying t=some (.slice e))(hs:(P.info? e).map (·.size)=some size)
 (hj:j=h) (hh:h≤m):Ev P n F (Mm c H) (.slice t x none (some hi) none) ty (ou v size 0 h):= .of_run fun a w ha hw=>by
 obtain⟨ρ,hm⟩:=hw.out;obtain⟨inf,p4,fD⟩:=Option.map_eq_some_iff.1 hs;subst hj
 rcases(hm.row hr).2 with⟨rfl,rfl⟩|⟨g,cap,cur,rfl,_,_,yQ,_⟩
 ·have b1:(0:Int)≤(h:Int)∧(h:Int)≤((0:Nat):Int):=by omega
  simp only[execOp,hx.eval ha,NT.eval ha,Option.map_some,Option.map_none,Instr.sliceAt,Instr.slice,Instr.sliceBounds,Instr.sliceBound,asIntOf,Sem.run_bind,run_underlying ht,Result.andThen_ok,Sem.run_pure,b1,and_self,if_true,Int.toNat_natCast,sizeOf,typeInfo,run_program,p4,fD,iY]
 ·have b1:(0:Int)≤(h:Int)∧(h:Int)≤(cap:Int):=by omega
  simp only[execOp,hx.eval ha,NT.eval ha,Option.map_some,Option.map_none,Instr.sliceAt,Instr.slice,Instr.sliceBounds,Instr.sliceBound,asIntOf,Sem.run_bind,run_underlying ht,Result.andThen_ok,Sem.run_pure,b1,and_self,if_true,Int.toNat_natCast,sizeOf,typeInfo,run_program,p4,fD,iY]
theorem St.Ad {T:Act→World→Prop}(v:Value)(h:Nat)[tk:jR v H e size m cs R](hh:h≤m)(k:St n F (Mm c (row (ou v size 0 h) e size h (cs.take (h*size))::R)) T):St n F (Mm c H) T:=by
 refine k.sL fun w hw=> ?_
 obtain⟨ρ,hm⟩:=hw.out
 have hm:=hm.perm tk.perm
 have hr:=eP.1 (hm.dF _ (List.mem_cons_self ..))
 have hlen:(cs.take (h*size)).length=h*size:=by
  rw[List.length_take,hr.1];exact Nat.min_eq_left (Nat.mul_le_mul_right _ hh)
 rcases hr.2 with⟨rfl,rfl⟩|⟨g,cap,cur,rfl,h0,hg,yQ,uW,kp,uN⟩
 ·have:h=0:=by omega
  subst this;refine Mm.mk (hm.alter rfl ⟨rfl,Nat.le_refl _⟩ rfl (Nat.le_refl _) (fun _ _ _=>rfl) (eP.2 ⟨hlen,.inl ⟨?_,rfl⟩⟩) (fun b hb=> ?_))
  ·rw[iY];simp
  ·rw[ef,iY]at hb;simp[Value.ownBlock]at hb
 ·have e1:ou (.slice (some ⟨g,0,none⟩) m cap) size 0 h= .slice (some ⟨g,0,none⟩) h cap:=by
   rw[iY]
   simp[Addr.add_zero']
  rw[e1];refine Mm.mk (hm.alter rfl ⟨rfl,Nat.le_refl _⟩ rfl (Nat.le_refl _) (fun _ _ _=>rfl) (eP.2 ⟨hlen,.inr ⟨g,cap,cur,rfl,h0,hg,by omega,uW,kp,?_⟩⟩) (fun b hb=> ?_))
  ·rw[←uN,List.take_take,Nat.min_eq_left (Nat.mul_le_mul_right _ hh)]
  ·rw[ef]at hb⊢;exact .inl hb
end rows
end
theorem F8 {P:Program}{t:TypeId}{xs:Array Value}{k:Nat}{v:Value}{w:World}(h:(match P.underlying t with|some (.struct _)|some (.array _ _)|none=>false|_=>true)=true)(hv:xs[k]?=some v):(part t xs k).run P w= .ok v w:=by
 unfold part
 cases hu:P.underlying t with
 |none=>rw[hu]at h;cases h
 |some d=>
  rw[hu]at h
  cases d<;>simp_all [isAgg,run_underlying hu]
class App (A B:List bQ)(C:outParam (List bQ)):Prop where
 eq:A++B=C
instance App.nil (B:List bQ):App [] B B:=⟨rfl⟩
instance App.cons (E:bQ)(A B C:List bQ)[h:App A B C]:App (E::A) B (E::C):=⟨by rw[List.cons_append,h.eq]⟩
section
variable {P:Program}{n:Nat}{F:Fr}{A:World→Prop}{c:Ctx}{H R C:List bQ}{ty:TypeId}{x y z:Operand}{u v:Value}{T:Act→World→Prop}
theorem St.known (k:Nat)(b u:Bool)(hk:look F k=some (.bool b))(hb:b=u)(h:St n ((k,.bool u)::F) A T):St n F A T:=by
 subst hb
 cases b with
 |true=>exact St.split k true hk (fun _=>h) (fun h=>by cases h)
 |false=>exact St.split k false hk (fun h=>by cases h) (fun _=>h)
theorem Ev.er {p:Bool}(hx:aL F x (.bool p))(hp:p=true)(hy:aL F y v):Ev P n F A (.pick x y z) ty v:= .of_run fun a w ha _=>by
 subst hp;simp only[execOp,hx.eval ha,hy.eval ha];simp[asBool]
theorem Ev.iM {p:Bool}(hx:aL F x (.bool p))(hp:p=false)(hz:aL F z v):Ev P n F A (.pick x y z) ty v:= .of_run fun a w ha _=>by
 subst hp;simp only[execOp,hx.eval ha,hz.eval ha];simp[asBool]
end
abbrev cm:={v:Value//v.oneCell'=true}
def ku {α:Type}(Rr:Rp α)(vs:List cm)(hG:List (List α)):df where
 f ρ:=∀(i:Nat) (u:cm) (l:List α),vs[i]?=some u→hG[i]?=some l→(sl Rr u.1 l).f ρ
 mono ρ iK h k i u l h1 h2:=(sl Rr u.1 l).mono _ _ h (k i u l h1 h2)
class Lw (vs:List cm)(H:List bQ)(α:outParam Type)(Rr:outParam (Rp α))(hG:outParam (List (List α))):Prop where
 mem:aF (ku Rr vs hG)∈H
instance (priority:=high) Lw.here {α:Type}(vs:List cm)(Rr:Rp α)(hG:List (List α))(H:List bQ):Lw vs (aF (ku Rr vs hG)::H) α Rr hG:=⟨List.mem_cons_self ..⟩
instance Lw.there {α:Type}(vs:List cm)(Rr:Rp α)(hG:List (List α))(E:bQ)(H:List bQ)[h:Lw vs H α Rr hG]:Lw vs (E::H) α Rr hG:=⟨List.mem_cons_of_mem _ h.mem⟩
section
variable {n:Nat}{F:Fr}{c:Ctx}{H R:List bQ}{T:Act→World→Prop}{e:TypeId}
theorem St.ku {α:Type}{Rr:Rp α}{vs:List cm}{hG:List (List α)}(k:Nat){u:cm}{l:List α}[hd:Lw vs H α Rr hG](hu:vs[k]?=some u)(hl:hG[k]?=some l)(h:St n F (Mm c (aF (sl Rr u.1 l)::H)) T):St n F (Mm c H) T:=
 St.fact _ (fun _ _ hm=>dV.1 (hm.dF _ hd.mem) k u l hu hl) h
theorem Ae {α:Type}(Rr:Rp α)(ρ:Ro):(sl Rr (.slice none 0 0) []).f ρ:=⟨none,0,rfl,Nat.le_refl _,by unfold maxLen;omega,(fun x hx=>by cases hx),.inl rfl⟩
theorem nS (vs:List cm):rows cK vs=vs.map Subtype.val:=by
 induction vs with
 |nil=>rfl
 |cons v vs ih=>simp only[rows,List.flatMap_cons,List.map_cons]at ih⊢;rw[ih];rfl
end
end Go.J
namespace Go.J
open Go Go.ChangeShapes Go.WideShapes Go.ChangeAt Go.RowKit Go.Deep
theorem DJ.below {dr:Prop}{P:Program}{f:FuncId}{args:Array Value}{ds:List df}{v:Value}{W:World}(h:DJ dr P f args (ds.map J.aF) fun u _=>u=v)(hd:∀d∈ds,d.f (J.all W)):Calls P f args W fun e W'=>e= .returned v∧Below W.heap.size W W':=by
 have st:Start (ds.map J.aF) (J.all W) W:=
  ⟨rfl,⟨rfl,fun _=>Nat.le_refl _⟩,rfl,Nat.le_refl _,fun _ _ _=>rfl,fun _ _ h=>h,Ro.le_refl _,fun _ _ _=>rfl,fun E hE=>by
   obtain⟨d,lJ,rfl⟩:=List.mem_map.1 hE;exact dV.2 (hd d lJ),
   (fun E hE b hb=>by
    obtain⟨d,hd,rfl⟩:=List.mem_map.1 hE
    rw[lj]at hb;cases hb),
   by
    refine List.pairwise_map.2 (List.Pairwise.imp_of_mem (R:=fun _ _=>True) ?_ (List.pairwise_of_forall fun _ _=>trivial));intro d d' _ _ _ b hb
    rw[lj]at hb;cases hb⟩
 refine(h W (J.all W) st).mono ?_;rintro e w' ⟨u,H',rfl,rfl,hm⟩;obtain⟨iK,hm⟩:=hm.out;exact⟨rfl,hm.os,hm.tape.1,hm.output,hm.size,fun k hk=>hm.AU k hk (iX ds k)⟩
theorem gj.below {P:Program}{f:FuncId}{args:Array Value}{ds:List df}{v:Value}{W:World}(h:gj P f args ds v)(hd:∀d∈ds,d.f (J.all W)):Calls P f args W fun e W'=>e= .returned v∧Below W.heap.size W W':=DJ.below (dr:=False) h hd
section
variable {H:Type}{enc:TypeId×Value→H}{P:Program}{W:World}{α:Type}
theorem fm {a:Addr}{v:Value}(h:W.cell? a=some v):a.spot=none∧∃C e fr,W.heap[a.block]?=some (.cells C e fr)∧C[a.off]?=some v:=by
 refine⟨World.cell?_spot h,?_⟩;unfold World.cell? at h
 split at h
 ·rename_i C e fr hb
  split at h
  ·cases h
  ·exact⟨C,e,fr,hb,h⟩
 ·cases h
theorem wX {R:Rp α}:∀(xs:List α) (j:Nat) (u:Value),(rows R xs)[j]?=some u→∃i k x,xs[i]?=some x∧k<R.size∧j=i*R.size+k∧(R.cells x)[k]?=some u
 | [],j,u,h=>by simp[rows]at h
 |x::xs,j,u,h=>by
  simp only[rows,List.flatMap_cons]at h
  by_cases hj:j<R.size
  ·rw[List.getElem?_append_left (by rw[R.len];exact hj)]at h
   exact⟨0,j,x,rfl,hj,by omega,h⟩
  ·rw[List.getElem?_append_right (by rw[R.len];omega),R.len]at h
   obtain⟨i,k,y,h1,h2,h3,h4⟩:=wX xs (j-R.size) u h;exact⟨i+1,k,y,by simpa using h1,h2,by rw[Nat.add_mul,Nat.one_mul];omega,h4⟩
abbrev kz (l:List Nat):Bool:=l.all (· ≤reachBytes)
theorem wY {e:TypeId}:∀{ds:List (DataW H)} {x:DataW H},kz (DataW.weightsAll P e ds)=true→x∈ds→kz (x.weights P e)=true
 | [],_,_,h=>by cases h
 |d::ds,x,h,hx=>by
  simp only[kz,DataW.weightsAll,List.all_append,Bool.and_eq_true]at h
  rcases List.mem_cons.1 hx with rfl|hx
  ·exact h.1
  ·exact wY h.2 hx
theorem lM:∀{ts:List TypeId} {ds:List (DataW H)} {j:Nat} {t:TypeId} {d:DataW H},kz (DataW.weightsEach P ts ds)=true→ts[j]?=some t→ds[j]?=some d→kz (d.weights P t)=true
 | [],_,_,_,_,_,h,_=>by simp at h
 |_::_,[],_,_,_,_,_,h=>by simp at h
 |t::ts,d::ds,0,_,_,h,h1,h2=>by
  simp only[List.getElem?_cons_zero,Option.some.injEq]at h1 h2
  subst h1 h2
  simp only[kz,DataW.weightsEach,List.all_append,Bool.and_eq_true]at h
  exact h.1
 |t::ts,d::ds,j+1,_,_,h,h1,h2=>by
  simp only[kz,DataW.weightsEach,List.all_append,Bool.and_eq_true]at h
  exact lM (j:=j) h.2 (by simpa using h1) (by simpa using h2)
theorem DR {t e:TypeId}{es sp:List (DataW H)}(ht:P.underlying t=some (.slice e))(h:kz ((DataW.slice es sp).weights P t)=true){x:DataW H}(hx:x∈es∨x∈sp):kz (x.weights P e)=true:=by
 simp only[kz,DataW.weights,ht,List.all_cons,List.all_append,Bool.and_eq_true]at h
 rcases hx with hx|hx
 ·exact wY h.2.1 hx
 ·exact wY h.2.2 hx
theorem wf_i64 {n:Int}(h:(Lit.int .i64 n).wf=true):bF n:=by
 have e1:IntKind.i64.min= -9223372036854775808:=rfl
 have e2:IntKind.i64.max=9223372036854775807:=rfl
 simpa[Lit.wf,e1,e2,bF]using h
theorem Lx (s:ByteArray):Value.string s=sv s.data.toList:=by
 cases s;rfl
end
end Go.J
namespace Go.J
open Go
def Es (P:Program)(n:Nat)(F:Fr)(op:Op)(ty:TypeId)(v:Value):Prop:=∀a w,Has n a F→(execOp a.eval (bare op ty)).run P w= .ok (.value v) w
def NP (Q:Exit→Act→World→Prop):Prop:=∀c a w,¬Q (.panic c) a w
theorem NP.then {K:Act→World→Prop}{Q:Exit→Act→World→Prop}(h:NP Q):NP (Exit.then K Q):=fun c a w k=>h c a w k
theorem NP.inBlock {id:Nat}{Q:Exit→Act→World→Prop}(h:NP Q):NP (Exit.inBlock id Q):=fun c a w k=>h c a w k
section
variable {P:Program}{ops:Array Oper}{Q:Exit→Act→World→Prop}
theorem wpOp_put {j:Nat}{oi oj:Oper}{v:Value}(hj:ops[j]?=some oj)(XD:oi.apart ops oj=true)
 (XE:∀cs b,oi.op≠ .select cs b) (QZ:∀cs b,oj.op≠ .select cs b) (hQ:NP Q) {K:Act→World→Prop} {a:Act} {w:World}
 (hy:∀w,(execOp a.eval oi).run P w= .ok (.value v) w) (h:wpOp P ops Q j K (a.put oi.dst v) w):
 wpOp P ops Q j (fun a' w'=>(∀w,(execOp a'.eval oi).run P w= .ok (.value v) w)∧K (a'.put oi.dst v) w') a w:=by
 obtain⟨h1,h2,h3⟩:=Oper.apart_spec XD
 have oO:∀u,∀w,(execOp (a.put oj.dst u).eval oi).run P w= .ok (.value v) w:=fun u w=>by
  rw[execOp_put (ops:=ops) oi XE a oj.dst u h3];exact hy w
 have put_defers:∀(d:Deferred) (u:Value),({a with defers:=d::a.defers}:Act).put oj.dst u={(a.put oj.dst u)with defers:=d::a.defers}:=fun d u=>by
  cases oj.dst<;>rfl
 unfold wpOp at*
 simp only[hj]at*
 rw[wanted_put oj a oi.dst v h1]at h
 split
 ·rename_i hw
  simp only[hw,if_true]at h
  rcases h with h|⟨h,hl⟩
  ·left
   unfold Oper.wp at*;rw[execOp_put oj QZ a oi.dst v h1]at h
   generalize (execOp a.eval oj).run P w=r at*
   cases r with
   |ok nx w'=>
    cases nx<;>simp only[Oper.upon]at h⊢
    case value u=>exact⟨oO u,by rw[←Act.put_comm a v u h2];exact h⟩
    case skip=>exact⟨oO _,by rw[←Act.put_comm a v undef h2];exact h⟩
    case defer d=>
     refine⟨fun w=> ?_,?_⟩
     ·rw[put_defers];exact oO undef w
     ·have e:({(a.put oi.dst v)with defers:=d::(a.put oi.dst v).defers}:Act).put oj.dst undef=(({a with defers:=d::a.defers}:Act).put oj.dst undef).put oi.dst v:=by
       have:=Act.put_comm ({a with defers:=d::a.defers}:Act) v undef h2
       rw[←this]
       cases oi.dst<;>rfl
      rw[←e];exact h
    case enter f args=>
     refine Calls.mono h fun e Ln he=> ?_
     cases e with
     |returned u=>exact⟨oO u,by rw[←Act.put_comm a v u h2];exact he⟩
     |panicked c=>exact(hQ _ _ _ he).elim
     |outgrown=>exact he
    case row rw_ args=>exact Rows.mono h fun u Ln he=>⟨oO u,by rw[←Act.put_comm a v u h2];exact he⟩
    all_goals exact h
   |halt x w'=>
    cases x<;>simp only[Oper.upon]at h⊢
    all_goals first|exact(hQ _ _ _ h).elim|exact h
  ·right
   refine⟨?_,hl⟩;unfold Oper.asks at*;rw[execOp_put oj QZ a oi.dst v h1]at h;exact h
 ·rename_i hw
  simp only[hw]at h
  exact⟨oO _,by rw[←Act.put_comm a v undef h2];exact h⟩
theorem wpOp_mono {j:Nat}{K K':Act→World→Prop}{a:Act}{w:World}(h:∀a w,K a w→K' a w)(hh:wpOp P ops Q j K a w):wpOp P ops Q j K' a w:=by
 unfold wpOp at*
 split
 ·rename_i ho;simp only[ho]at hh;exact h _ _ hh
 ·rename_i o ho
  simp only[ho]at hh
  split
  ·rename_i hw;simp only[hw,if_true]at hh;exact hh.imp (Oper.wp_mono h) id
  ·rename_i hw;simp only[hw]at hh;exact h _ _ hh
theorem wpAny_first {md:Region.Mode}{i:Nat}{oi:Oper}{v:Value}(hi:ops[i]?=some oi)(hg:oi.guard=none)(hQ:NP Q)(F9:∀(j:Nat) (o:Oper) cs b,ops[j]?=some o→o.op≠ .select cs b):
 ∀(fuel:Nat) (listed:Array Bool) (a:Act) (w:World),
  (∀j oj,ops[j]?=some oj→j≠i→listed.getD j true=false→(∀e∈oj.after,Region.binds md e=true→e.on≠i)→oi.apart ops oj=true)→
  i∈Region.ready md ops listed→(∀w,(execOp a.eval oi).run P w= .ok (.value v) w)→
  wpAny P md ops Q fuel (listed.setIfInBounds i true) (a.put oi.dst v) w→wpAny P md ops Q (fuel+1) listed a w:=by
 have self:∀{K:Act→World→Prop} {a:Act} {w:World},(∀w,(execOp a.eval oi).run P w= .ok (.value v) w)→K (a.put oi.dst v) w→wpOp P ops Q i K a w:=by
  intro K a w hy hK;unfold wpOp
  simp only[hi,Region.wanted,hg,if_true]
  left
  unfold Oper.wp;rw[hy w];exact hK
 intro fuel
 induction fuel with
 |zero=>
  intro listed a w _ hr hy H;refine⟨fun h=>(by rw[h]at hr;cases hr),fun j hj=> ?_⟩
  by_cases wZ:j=i
  ·subst wZ;exact self hy H
  ·have:=ready_mono hj wZ
   rw[H.1]at this
   cases this
 |succ fuel ih=>
  intro listed a w yR hr hy H;refine⟨fun h=>(by rw[h]at hr;cases hr),fun j hj=> ?_⟩
  by_cases wZ:j=i
  ·subst wZ;exact self hy H
  ·have h1:=H.2 j (ready_mono hj wZ)
   obtain⟨FA,oj,NV,fE⟩:=mem_ready.1 hj
   have NW:∀e∈oj.after,Region.binds md e=true→e.on≠i:=fun e he hb heq=>by
    have h1:=fE e he hb
    have h0:=(mem_ready.1 hr).1
    rw[heq]at h1
    rcases Nat.lt_or_ge i listed.size with h'|h'
    ·simp[h']at h0 h1;rw[h0]at h1;cases h1
    ·simp[Array.getElem?_eq_none h']at h1
   have h2:=wpOp_put NV (yR j oj NV wZ FA NW) (fun cs b=>F9 i oi cs b hi) (fun cs b=>F9 j oj cs b NV) hQ hy h1
   have Af:∀k ok,ops[k]?=some ok→k≠i→(listed.setIfInBounds j true).getD k true=false→
    (∀e∈ok.after,Region.binds md e=true→e.on≠i)→oi.apart ops ok=true:=fun k ok hk Vm Ag mL=>by
    refine yR k ok hk Vm ?_ mL
    by_cases Qa:j=k
    ·subst Qa;exact FA
    ·rw[getD_set_ne true Qa]at Ag;exact Ag
   refine wpOp_mono (fun a' w' h3=>ih (listed.setIfInBounds j true) a' w' Af (ready_mono hr (Ne.symm wZ)) h3.1 ?_) h2;rw[Array.setIfInBounds_comm _ _ wZ];exact h3.2
theorem St.defer {n:Nat}{F:Fr}{A:World→Prop}{f d:Nat}{listed:Array Bool}{op:Op}{ty:TypeId}{pos:String}{after:Array Edge}{v:Value}(i:Nat)
 (hQ:NP Q) (hs:Region.noSelect ops=true) (hi:ops[i]?=some {dst:=some d,op:=op,type:=ty,pos:=pos,after:=after,guard:=none}) (lh:Es P n F op ty v)
 (hr:((Region.ready .any ops listed).contains i&&Region.free .any ops listed i)=true) (hd:Nat.ble (d+1) n=true)
 (h:St n ((d,v)::F) A (wpAny P .any ops Q f (listed.setIfInBounds i true))):St n F A (wpAny P .any ops Q (f+1) listed):=by
 intro a w ha hw
 simp only[Bool.and_eq_true]at hr
 refine wpAny_first hi rfl hQ (Region.noSelect_spec hs) f listed a w (Region.free_spec hi hr.2) (by simpa using hr.1) (fun w'=> ?_) (h _ w (ha.put (Nat.le_of_ble_eq_true hd) v) hw);rw[fk];exact lh a w' ha
end
section
variable {P:Program}{n:Nat}{F:Fr}{c:Ctx}{H:List bQ}{ty:TypeId}{x y:Operand}{v:Value}{t e:TypeId}
theorem NP.body {fn:Func}{R:Value→List bQ→World→Prop}:NP (bodyPost P fn fun e w'=>∃v H',e= .returned v∧R v H' w'):=fun c a w h=>by
 obtain⟨_,_,_,h1,_⟩:=h
 cases h1
theorem Es.extract {vs:List Value}{i:Nat}(hx:aL F x (.tuple vs.toArray))(hi:vs[i]?=some v):Es P n F (.extract x i) ty v:=fun a w ha=>by
 simp[execOp,hx.eval ha,Instr.extract,hi]
theorem St.sU {T:Act→World→Prop}{size m:Nat}{cs:List Value}(v:Value)[hr:v7 v H e size m cs](hm:0<m)(h:∀b cap,v= .slice (some ⟨b,0,none⟩) m cap→St n F (Mm c H) T):St n F (Mm c H) T:=by
 intro a w ha hw;obtain⟨ρ,jC⟩:=hw.out
 rcases(jC.row hr).2 with⟨rfl,rfl⟩|⟨g,cap,cur,h1,_⟩
 ·omega
 ·exact h g cap h1 a w ha hw
end
theorem St.slot {n:Nat}{F:Fr}{A:World→Prop}{T:Act→World→Prop}{v:Value}(k:Nat)(v':Value)(hk:look F k=some v)(h:v=v')(hT:St n ((k,v')::F) A T):St n F A T:=by
 subst h
 refine fun a w ha hw=>hT a w ⟨ha.size,ha.defers,fun t u hu=> ?_⟩ hw
 simp only[look]at hu
 cases hb:Nat.beq t k with
 |true=>
  have e:=Nat.eq_of_beq_eq_true hb
  subst e
  simp only[hb,cond_true,Option.some.injEq]at hu
  subst hu;exact ha.slot _ _ hk
 |false=>
  simp only[hb,cond_false]at hu
  exact ha.slot _ _ hu
section
variable {ι:Type}{P:Program}{C:ι→World→Prop}{ops:Array Oper}{Q:Exit→Act→World→Prop}
def WR (P:Program)(C:ι→World→Prop)(ops:Array Oper)(Q:Exit→Act→World→Prop):Nat→Array Bool→Act→ι→Prop
 |0,listed,a,r=>Region.ready .any ops listed=[]∧∀w,C r w→Q .normal a w
 |fuel+1,listed,a,r=>(Region.ready .any ops listed=[]→∀w,C r w→Q .normal a w)∧
  ∀i∈Region.ready .any ops listed,∀w,C r w→wpOp P ops Q i (fun a' w'=>∃r',C r' w'∧WR P C ops Q fuel (listed.setIfInBounds i true) a' r') a w
theorem WR.any:∀(fuel:Nat) (listed:Array Bool) (a:Act) (r:ι) (w:World),C r w→WR P C ops Q fuel listed a r→wpAny P .any ops Q fuel listed a w
 |0,_,_,_,_,hw,h=>⟨h.1,h.2 _ hw⟩
 |fuel+1,_,_,_,_,hw,h=>⟨fun h0=>h.1 h0 _ hw,fun i hi=>wpOp_mono (fun a' w' ⟨r',hr,hk⟩=>WR.any fuel _ a' r' w' hr hk) (h.2 i hi _ hw)⟩
def YS (P:Program)(C:ι→World→Prop)(ops:Array Oper)(o:Oper)(v:Value)(a:Act):Prop:=
 (Region.wanted o (yielded ops a.tmps)=true∧∀r w,C r w→o.quietAt P a (C r) w v)∨(Region.wanted o (yielded ops a.tmps)=false∧v=undef)
theorem YS.of_same {o:Oper}{v:Value}{a a':Act}(hy:YS P C ops o v a)(he:execOp a'.eval o=execOp a.eval o)
 (hw:Region.wanted o (yielded ops a'.tmps)=Region.wanted o (yielded ops a.tmps)):YS P C ops o v a':=by
 unfold YS Oper.quietAt at*;rw[he,hw];exact hy
theorem YS.self {i:Nat}{o:Oper}{v:Value}{a:Act}(hi:ops[i]?=some o)(hy:YS P C ops o v a){K:Act→World→Prop}{r:ι}{w:World}(hw:C r w)(h:∀w',C r w'→K (a.put o.dst v) w'):wpOp P ops Q i K a w:=by
 have h1:YieldsIn P ops (C r) o v a:=hy.imp (fun⟨h1,h2⟩=>⟨h1,h2 r⟩) id
 exact wpOp_of_qOp hw (K:=fun a'=>a'=a.put o.dst v) (fun a' w' yJ e=>by rw[e];exact h w' yJ) (h1.qOp hi rfl)
theorem DS {j:Nat}{oi oj:Oper}{v:Value}(hj:ops[j]?=some oj)(XD:oi.apart ops oj=true)
 (XE:∀cs b,oi.op≠ .select cs b) (QZ:∀cs b,oj.op≠ .select cs b) (hQ:NP Q) {K:Act→World→Prop} {a:Act} {w:World}
 (hy:YS P C ops oi v a) (h:wpOp P ops Q j K (a.put oi.dst v) w):
 wpOp P ops Q j (fun a' w'=>YS P C ops oi v a'∧K (a'.put oi.dst v) w') a w:=by
 obtain⟨h1,h2,h3⟩:=Oper.apart_spec XD
 have oO:∀u,YS P C ops oi v (a.put oj.dst u):=fun u=>hy.of_same (execOp_put (ops:=ops) oi XE a oj.dst u h3) (wanted_put oi a oj.dst u h3)
 have put_defers:∀(d:Deferred) (u:Value),({a with defers:=d::a.defers}:Act).put oj.dst u={(a.put oj.dst u)with defers:=d::a.defers}:=fun d u=>by
  cases oj.dst<;>rfl
 unfold wpOp at*
 simp only[hj]at*
 rw[wanted_put oj a oi.dst v h1]at h
 split
 ·rename_i hw
  simp only[hw,if_true]at h
  rcases h with h|⟨h,hl⟩
  ·left
   unfold Oper.wp at*;rw[execOp_put oj QZ a oi.dst v h1]at h
   generalize (execOp a.eval oj).run P w=r at*
   cases r with
   |ok nx w'=>
    cases nx<;>simp only[Oper.upon]at h⊢
    case value u=>exact⟨oO u,by rw[←Act.put_comm a v u h2];exact h⟩
    case skip=>exact⟨oO _,by rw[←Act.put_comm a v undef h2];exact h⟩
    case defer d=>
     refine⟨?_,?_⟩
     ·rw[put_defers];exact(oO undef).of_same rfl rfl
     ·have e:({(a.put oi.dst v)with defers:=d::(a.put oi.dst v).defers}:Act).put oj.dst undef=(({a with defers:=d::a.defers}:Act).put oj.dst undef).put oi.dst v:=by
       have:=Act.put_comm ({a with defers:=d::a.defers}:Act) v undef h2
       rw[←this]
       cases oi.dst<;>rfl
      rw[←e];exact h
    case enter f args=>
     refine Calls.mono h fun e Ln he=> ?_
     cases e with
     |returned u=>exact⟨oO u,by rw[←Act.put_comm a v u h2];exact he⟩
     |panicked c=>exact(hQ _ _ _ he).elim
     |outgrown=>exact he
    case row rw_ args=>exact Rows.mono h fun u Ln he=>⟨oO u,by rw[←Act.put_comm a v u h2];exact he⟩
    all_goals exact h
   |halt x w'=>
    cases x<;>simp only[Oper.upon]at h⊢
    all_goals first|exact(hQ _ _ _ h).elim|exact h
  ·right
   refine⟨?_,hl⟩;unfold Oper.asks at*;rw[execOp_put oj QZ a oi.dst v h1]at h;exact h
 ·rename_i hw
  simp only[hw]at h
  exact⟨oO _,by rw[←Act.put_comm a v undef h2];exact h⟩
theorem WR.first {i:Nat}{oi:Oper}{v:Value}(hi:ops[i]?=some oi)(hQ:NP Q)(F9:∀(j:Nat) (o:Oper) cs b,ops[j]?=some o→o.op≠ .select cs b):
 ∀(fuel:Nat) (listed:Array Bool) (a:Act) (r:ι),
  (∀j oj,ops[j]?=some oj→j≠i→listed.getD j true=false→(∀e∈oj.after,Region.binds .any e=true→e.on≠i)→oi.apart ops oj=true)→
  i∈Region.ready .any ops listed→YS P C ops oi v a→
  WR P C ops Q fuel (listed.setIfInBounds i true) (a.put oi.dst v) r→WR P C ops Q (fuel+1) listed a r:=by
 intro fuel
 induction fuel with
 |zero=>
  intro listed a r _ hr hy H;refine⟨fun h=>(by rw[h]at hr;cases hr),fun j hj w hw=> ?_⟩
  by_cases wZ:j=i
  ·subst wZ;exact hy.self hi hw fun w' yJ=>⟨r,yJ,H⟩
  ·have:=ready_mono hj wZ
   rw[H.1]at this
   cases this
 |succ fuel ih=>
  intro listed a r yR hr hy H;refine⟨fun h=>(by rw[h]at hr;cases hr),fun j hj w hw=> ?_⟩
  by_cases wZ:j=i
  ·subst wZ;exact hy.self hi hw fun w' yJ=>⟨r,yJ,H⟩
  ·have h1:=H.2 j (ready_mono hj wZ) w hw
   obtain⟨FA,oj,NV,fE⟩:=mem_ready.1 hj
   have NW:∀e∈oj.after,Region.binds .any e=true→e.on≠i:=fun e he hb heq=>by
    have h1:=fE e he hb
    have h0:=(mem_ready.1 hr).1
    rw[heq]at h1
    rcases Nat.lt_or_ge i listed.size with h'|h'
    ·simp[h']at h0 h1;rw[h0]at h1;cases h1
    ·simp[Array.getElem?_eq_none h']at h1
   have h2:=DS NV (yR j oj NV wZ FA NW) (fun cs b=>F9 i oi cs b hi) (fun cs b=>F9 j oj cs b NV) hQ hy h1
   have Af:∀k ok,ops[k]?=some ok→k≠i→(listed.setIfInBounds j true).getD k true=false→
    (∀e∈ok.after,Region.binds .any e=true→e.on≠i)→oi.apart ops ok=true:=fun k ok hk Vm Ag mL=>by
    refine yR k ok hk Vm ?_ mL
    by_cases Qa:j=k
    ·subst Qa;exact FA
    ·rw[getD_set_ne true Qa]at Ag;exact Ag
   refine wpOp_mono (fun a' w' h3=> ?_) h2;obtain⟨h3,r',h4,h5⟩:=h3;refine⟨r',h4,ih (listed.setIfInBounds j true) a' r' Af (ready_mono hr (Ne.symm wZ)) h3 ?_⟩;rw[Array.setIfInBounds_comm _ _ wZ];exact h5
end
class sV (bs:List Nat)(H:List bQ)(r R:outParam (List bQ)):Prop where
 perm:H.Perm (R++r)
instance sV.nil (H:List bQ):sV [] H [] H:=⟨by simp⟩
instance sV.cons (b:Nat)(bs:List Nat)(H H1 r R:List bQ)(o:Obj)[h:lK b H o H1][k:sV bs H1 r R]:sV (b::bs) H (ae b o::r) R:=
 ⟨(h.perm.trans (k.perm.cons _)).trans List.perm_middle.symm⟩
section app
instance (priority:=low) jW.app (d:df)(L R:List bQ)[h:jW d L]:jW d (L++R):=⟨List.mem_append_left _ h.mem⟩
instance (priority:=low) jm.app (b:Nat)(o:Obj)(L R:List bQ)[h:jm b L o]:jm b (L++R) o:=⟨List.mem_append_left _ h.mem⟩
instance (priority:=low) sM.app {α:Type}(v:Value)(Rr:Rp α)(xs:List α)(L R:List bQ)[h:sM v L α Rr xs]:sM v (L++R) α Rr xs:=⟨List.mem_append_left _ h.mem⟩
instance (priority:=low) p5.app (b:Nat)(v:Value)(L R:List bQ)[h:p5 b L v]:p5 b (L++R) v:=⟨List.mem_append_left _ h.mem⟩
instance (priority:=low) v7.app (v:Value)(e:TypeId)(size n:Nat)(cs:List Value)(L R:List bQ)[h:v7 v L e size n cs]:v7 v (L++R) e size n cs:=⟨List.mem_append_left _ h.mem⟩
end app
def SW (P:Program)(ops:Array Oper)(Q:Exit→Act→World→Prop)(n:Nat)(F:Fr)(c:Ctx)(Fp r:List bQ)(f:Nat)(listed:Array Bool):Prop:=
 ∀a,Has n a F→WR P (fun R=>Mm c (Fp++R)) ops Q f listed a r
def KW (P:Program)(ops:Array Oper)(Q:Exit→Act→World→Prop)(n:Nat)(c:Ctx)(Fp:List bQ)(f:Nat)(listed:Array Bool)(a:Act)(w:World):Prop:=
 ∃F r,Has n a F∧Mm c (Fp++r) w∧SW P ops Q n F c Fp r f listed
section
variable {P:Program}{ops:Array Oper}{Q:Exit→Act→World→Prop}{n:Nat}{F:Fr}{c:Ctx}{H Fp r r' C':List bQ}{f:Nat}{listed:Array Bool}
theorem St.par {id:Nat}{l:List Oper}(bs:List Nat)[tk:sV bs H r Fp](hm:P.follows .mixedOrders=true)
 (h:SW P l.toArray Q n F c Fp r l.length (Array.replicate l.length false)):St n F (Mm c H) ((Code.region id l.toArray true).wp P Q):=by
 intro a w ha hw;refine wp_region_any hm ?_
 have h1:=h a ha
 have h2:Mm c (Fp++r) {w with drawn:=w.drawn+1}:=by
  obtain⟨ρ,k⟩:=((Mm.drawn c H) w hw).out;exact Mm.mk (k.perm tk.perm)
 simpa using WR.any (C:=fun R=>Mm c (Fp++R)) l.length _ a r _ h2 h1
theorem SW.done (hr:Region.ready .any ops listed=[])[ap:App Fp r C'](h:St n F (Mm c C') (Q .normal)):SW P ops Q n F c Fp r f listed:=by
 intro a ha
 have h1:∀w,Mm c (Fp++r) w→Q .normal a w:=fun w hw=>h a w ha (by rw[←ap.eq];exact hw)
 cases f with
 |zero=>exact⟨hr,h1⟩
 |succ f=>exact⟨fun _=>h1,fun i hi=>by rw[hr]at hi;cases hi⟩
theorem SW.perm {F':Fr}(hF:Sub F F')(hp:∀w,Mm c (Fp++r') w→Mm c (Fp++r) w)(h:SW P ops Q n F c Fp r (f+1) listed):SW P ops Q n F' c Fp r' (f+1) listed:=by
 intro a ha
 have h1:=h a (ha.sub hF)
 exact⟨fun h0 w hw=>h1.1 h0 w (hp w hw),fun i hi w hw=>h1.2 i hi w (hp w hw)⟩
theorem SW.go [tk:jS Fp H r'](h:SW P ops Q n F c Fp r' f listed):St n F (Mm c H) (KW P ops Q n c Fp f listed):=
 fun _ _ ha hw=>⟨F,r',ha,hw.take,h⟩
theorem SW.each [ap:App Fp r C'](fj:Region.ready .any ops listed≠ [])(h:∀i∈Region.ready .any ops listed,St n F (Mm c C') (wpOp P ops Q i (KW P ops Q n c Fp f (listed.setIfInBounds i true)))):SW P ops Q n F c Fp r (f+1) listed:=by
 intro a ha;refine⟨fun h0=>absurd h0 fj,fun i hi w hw=> ?_⟩;refine wpOp_mono ?_ (h i hi a w ha (by rw[←ap.eq];exact hw));rintro a' w' ⟨F',r',h1,h2,h3⟩;exact⟨r',h2,h3 a' h1⟩
theorem SW.bG {i:Nat}{o:Oper}[ap:App Fp r C'](hr:Region.ready .any ops listed=[i])(ho:ops[i]?=some o)
 (h:St n F (Mm c C') (wpList P ops (Exit.then (KW P ops Q n c Fp f (listed.setIfInBounds i true)) Q) [o])):SW P ops Q n F c Fp r (f+1) listed:=
 SW.each (by rw[hr];simp) (by rw[hr];intro k hk;rw[List.mem_singleton.1 hk];exact St.one ho h)
theorem SW.iP {i j:Nat}{o o':Oper}[ap:App Fp r C'](hr:Region.ready .any ops listed=[i,j])(ho:ops[i]?=some o)(XF:ops[j]?=some o')
 (h:St n F (Mm c C') (wpList P ops (Exit.then (KW P ops Q n c Fp f (listed.setIfInBounds i true)) Q) [o]))
 (h':St n F (Mm c C') (wpList P ops (Exit.then (KW P ops Q n c Fp f (listed.setIfInBounds j true)) Q) [o'])):SW P ops Q n F c Fp r (f+1) listed:=
 SW.each (by rw[hr];simp) (by
  rw[hr];intro k hk
  simp only[List.mem_cons,List.not_mem_nil,or_false]at hk
  rcases hk with rfl|rfl
  ·exact St.one ho h
  ·exact St.one XF h')
theorem SW.Qb {i j k:Nat}{o o' o'':Oper}[ap:App Fp r C'](hr:Region.ready .any ops listed=[i,j,k])(ho:ops[i]?=some o)(XF:ops[j]?=some o')(XG:ops[k]?=some o'')
 (h:St n F (Mm c C') (wpList P ops (Exit.then (KW P ops Q n c Fp f (listed.setIfInBounds i true)) Q) [o]))
 (h':St n F (Mm c C') (wpList P ops (Exit.then (KW P ops Q n c Fp f (listed.setIfInBounds j true)) Q) [o']))
 (h'':St n F (Mm c C') (wpList P ops (Exit.then (KW P ops Q n c Fp f (listed.setIfInBounds k true)) Q) [o''])):SW P ops Q n F c Fp r (f+1) listed:=
 SW.each (by rw[hr];simp) (by
  rw[hr];intro m hm
  simp only[List.mem_cons,List.not_mem_nil,or_false]at hm
  rcases hm with rfl|rfl|rfl
  ·exact St.one ho h
  ·exact St.one XF h'
  ·exact St.one XG h'')
section
variable {d:Nat}{op:Op}{ty:TypeId}{pos:String}{after:Array Edge}{v:Value}
theorem SW.defer (i:Nat)(hQ:NP Q)(hs:Region.noSelect ops=true)(hi:ops[i]?=some {dst:=some d,op:=op,type:=ty,pos:=pos,after:=after,guard:=none})(lh:∀R,Ev P n F (Mm c (Fp++R)) op ty v)
 (hr:((Region.ready .any ops listed).contains i&&Region.free .any ops listed i)=true) (hd:Nat.ble (d+1) n=true)
 (h:SW P ops Q n ((d,v)::F) c Fp r f (listed.setIfInBounds i true)):SW P ops Q n F c Fp r (f+1) listed:=by
 intro a ha
 simp only[Bool.and_eq_true]at hr
 refine WR.first (v:=v) hi hQ (Region.noSelect_spec hs) f listed a r (Region.free_spec hi hr.2) (by simpa using hr.1) ?_ (h _ (ha.put (Nat.le_of_ble_eq_true hd) v));exact .inl ⟨rfl,fun R w hw=>(lh R).quietAt ha hw⟩
theorem SW.FB (i:Nat){j dj:Nat}{want:Bool}{u:Value}(cd:Bool)(hQ:NP Q)(hs:Region.noSelect ops=true)(hi:ops[i]?=some {dst:=some d,op:=op,type:=ty,pos:=pos,after:=after,guard:=some (j,want)})
 (hj:(ops[j]?).bind (·.dst)=some dj) (hl:look F dj=some u) (hu:(cd=true→u= .bool want)∧(cd=false→u= .bool (!want)∨u=undef))
 (lh:∀R,cd=true→Ev P n F (Mm c (Fp++R)) op ty v)
 (hr:((Region.ready .any ops listed).contains i&&Region.free .any ops listed i)=true) (hd:Nat.ble (d+1) n=true)
 (h:SW P ops Q n ((d,gv cd v)::F) c Fp r f (listed.setIfInBounds i true)):SW P ops Q n F c Fp r (f+1) listed:=by
 intro a ha
 simp only[Bool.and_eq_true]at hr
 have qE:=lI (l:=ops) (o:={dst:=some d,op:=op,type:=ty,pos:=pos,after:=after,guard:=some (j,want)}) rfl hj (ha.slot _ _ hl) hu
 refine WR.first (v:=gv cd v) hi hQ (Region.noSelect_spec hs) f listed a r (Region.free_spec hi hr.2) (by simpa using hr.1) ?_ (h _ (ha.put (Nat.le_of_ble_eq_true hd) _))
 cases hc:cd with
 |true=>
  rw[hc]at qE;rw[an rfl];exact .inl ⟨qE,fun R w hw=>(lh R hc).quietAt ha hw⟩
 |false=>
  rw[hc]at qE;rw[ag rfl];exact .inr ⟨qE,rfl⟩
end
section
variable {d:Nat}{op:Op}{ty:TypeId}{pos:String}{after:Array Edge}{dj:Nat}{j:Nat}(i:Nat)(v:Value)
theorem SW.gt {g:Bool}(hQ:NP Q)(hs:Region.noSelect ops=true)(hi:ops[i]?=some {dst:=some d,op:=op,type:=ty,pos:=pos,after:=after,guard:=some (j,true)})(hj:(ops[j]?).bind (·.dst)=some dj)(hl:look F dj=some (.bool g))
 (lh:∀R,g=true→Ev P n F (Mm c (Fp++R)) op ty v) (hr:((Region.ready .any ops listed).contains i&&Region.free .any ops listed i)=true) (hd:Nat.ble (d+1) n=true)
 (h:SW P ops Q n ((d,J.gv g v)::F) c Fp r f (listed.setIfInBounds i true)):SW P ops Q n F c Fp r (f+1) listed:=SW.FB i g hQ hs hi hj hl (NI g) lh hr hd h
theorem SW.gf {g:Bool}(hQ:NP Q)(hs:Region.noSelect ops=true)(hi:ops[i]?=some {dst:=some d,op:=op,type:=ty,pos:=pos,after:=after,guard:=some (j,false)})(hj:(ops[j]?).bind (·.dst)=some dj)(hl:look F dj=some (.bool g))
 (lh:∀R,(!g)=true→Ev P n F (Mm c (Fp++R)) op ty v) (hr:((Region.ready .any ops listed).contains i&&Region.free .any ops listed i)=true) (hd:Nat.ble (d+1) n=true)
 (h:SW P ops Q n ((d,J.gv (!g) v)::F) c Fp r f (listed.setIfInBounds i true)):SW P ops Q n F c Fp r (f+1) listed:=SW.FB i (!g) hQ hs hi hj hl (NJ g) lh hr hd h
end
theorem SW.slot (k:Nat){v:Value}(v':Value)(hk:look F k=some v)(h:v=v')(hT:SW P ops Q n ((k,v')::F) c Fp r f listed):SW P ops Q n F c Fp r f listed:=by
 subst h
 refine fun a ha=>hT a ⟨ha.size,ha.defers,fun t u hu=> ?_⟩
 simp only[look]at hu
 cases hb:Nat.beq t k with
 |true=>
  have e:=Nat.eq_of_beq_eq_true hb
  subst e
  simp only[hb,cond_true,Option.some.injEq]at hu
  subst hu;exact ha.slot _ _ hk
 |false=>
  simp only[hb,cond_false]at hu
  exact ha.slot _ _ hu
theorem Has.swap {a:Act}{k1 k2:Nat}{v1 v2:Value}(fj:Nat.beq k1 k2=false)(h:Has n a ((k1,v1)::(k2,v2)::F)):Has n a ((k2,v2)::(k1,v1)::F):=by
 refine⟨h.size,h.defers,fun t u hu=>h.slot t u ?_⟩
 simp only[look]at hu⊢
 cases hb:Nat.beq t k1 with
 |true=>
  have e:=Nat.eq_of_beq_eq_true hb
  subst e
  simp only[fj,cond_false,hb,cond_true]at hu⊢
  exact hu
 |false=>
  simp only[hb,cond_false]at hu⊢
  exact hu
theorem SW.NX (i j:Nat){di dj ti tj tyi tyj:Nat}{pi pj:String}{ai aj:Array Edge}{Zi Zj:Array Value}(hr:Region.ready .any ops listed=[i,j])
 (hi:ops[i]?=some {dst:=some di,op:= .alloc ti,type:=tyi,pos:=pi,after:=ai,guard:=none}) (hj:ops[j]?=some {dst:=some dj,op:= .alloc tj,type:=tyj,pos:=pj,after:=aj,guard:=none})
 (hr1:Region.ready .any ops (listed.setIfInBounds i true)=[j]) (Ei:Region.ready .any ops (listed.setIfInBounds j true)=[i])
 (Pq:(P.info? ti).bind (fun i=>i.zero.map Value.cells)=some Zi) (hzj:(P.info? tj).bind (fun i=>i.zero.map Value.cells)=some Zj) (Qc:Nat.ble (di+1) n=true) (hdj:Nat.ble (dj+1) n=true) (fj:Nat.beq di dj=false)
 (h:∀b b',SW P ops Q n ((dj,.pointer (some ⟨b',0,none⟩))::(di,.pointer (some ⟨b,0,none⟩))::F) c Fp (ae b' (.cells Zj tj (0,0))::ae b (.cells Zi ti (0,0))::r) f ((listed.setIfInBounds i true).setIfInBounds j true)):
 SW P ops Q n F c Fp r (f+2) listed:=by
 have NY:i≠j:=by
  rintro rfl;rw[hi]at hj
  have h9:=congrArg (fun o:Option Oper=>o.bind (·.dst)) hj
  simp only[Option.bind_some,Option.some.injEq]at h9
  rw[h9]at fj
  simp at fj
 have hp:∀{w:World} {E:bQ} {r:List bQ},Mm c (E::(Fp++r)) w→Mm c (Fp++E::r) w:=fun hw=>by
  obtain⟨ρ,k⟩:=hw.out;exact Mm.mk (k.perm List.perm_middle.symm)
 haveI app:∀r,App Fp r (Fp++r):=fun r=>⟨rfl⟩
 refine SW.iP hr hi hj ?_ ?_
 ·refine St.alloc Pq Qc (fun b=>St.nil (St.aA fun a w ha hw=>⟨_,ae b (.cells Zi ti (0,0))::r,ha,hp hw,?_⟩))
  refine SW.bG hr1 hj (St.alloc hzj hdj (fun b'=>St.nil (St.aA fun a w ha hw=>⟨_,_,ha,hp hw,h b b'⟩)))
 ·refine St.alloc hzj hdj (fun b'=>St.nil (St.aA fun a w ha hw=>⟨_,ae b' (.cells Zj tj (0,0))::r,ha,hp hw,?_⟩))
  refine SW.bG Ei hi (St.alloc Pq Qc (fun b=>St.nil (St.aA fun a w ha hw=>⟨_,ae b' (.cells Zj tj (0,0))::ae b (.cells Zi ti (0,0))::r,Has.swap fj ha,?_,?_⟩)))
  ·have h2:=hp hw
   obtain⟨ρ,k⟩:=h2.out;exact Mm.mk (k.perm (List.Perm.append_left Fp (List.Perm.swap ..)))
  ·rw[Array.setIfInBounds_comm _ _ (Ne.symm NY)]
   exact h b b'
end
theorem Ev.mf {P:Program}{n:Nat}{F:Fr}{A:World→Prop}{ty t:TypeId}{x:Operand}{xs:Array Value}{fs:Array Field}{fd:Field}{i:Nat}{v:Value}(hx:aL F x (.agg xs))(ht:P.underlying t=some (.struct fs))(hf:fs[i]?=some fd)
 (hk:(match P.underlying fd.type with|some (.struct _)|some (.array _ _)|none=>false|_=>true)=true) (hv:xs[fd.offset]?=some v):Ev P n F A (.field t x i) ty v:= .of_run fun a w ha _=>by
 simp[execOp,hx.eval ha,Instr.field,run_underlying ht,hf,asAgg,F8 hk hv]
theorem cz.Qd {P:Program}{f:FuncId}{fn:Func}{cd:Code}{args:List Value}{u:Value}{d1 d2 d3 d4 d5:df}(n:Nat)
 (hf:P.funcs[f]?=some fn) (hb:fn.body=some cd) (hn:fn.ntmps=n) (iz:Nat.ble args.length n=true)
 (h:∀c:Ctx,St n (qF 0 args) (Mm c [aF d1,aF d2,aF d3,aF d4,aF d5]) (cd.wp P (bodyPost P fn fun e w'=>∃v H',e= .returned v∧v=u∧Mm c H' w'))):cz P f args.toArray [d1,d2,d3,d4,d5] u:=fC.body n hf hb hn iz h
theorem aC:(∀b:Bool,(b&&true)=b)∧(∀b:Bool,(true&&b)=b)∧(∀(p:Prop) [Decidable p],(decide p=true)=p)∧(∀(p:Prop) [Decidable p],(decide p=false)↔¬p)∧(∀a b:Bool,((a&&b)=true)=(a=true∧b=true))∧(∀a b:Bool,((a||b)=true)=(a=true∨b=true))∧
 (∀a b:Bool,(a&&b)=false↔a=false∨b=false)∧(∀a b:Bool,(a||b)=false↔a=false∧b=false)∧(∀b:Bool,((!b)=true)=(b=false))∧(∀b:Bool,((!b)=false)=(b=true))∧(∀{α:Type} [BEq α] [LawfulBEq α] (a b:α),(a==b)=true↔a=b)∧(∀{α:Type} [BEq α] [LawfulBEq α] (a b:α),(a==b)=false↔a≠b)∧
 (∀a b:Int,¬a<b↔b≤a)∧(∀a b:Int,¬a≤b↔b<a):=
 ⟨fun _=>Bool.and_true _,fun _=>Bool.true_and _,fun _ _=>decide_eq_true_eq,fun _ _=>decide_eq_false_iff_not,Bool.and_eq_true,Bool.or_eq_true,fun _ _=>Bool.and_eq_false_iff,fun _ _=>Bool.or_eq_false_iff,fun _=>Bool.not_eq_true' _,fun _=>Bool.not_eq_false' _,fun _ _=>beq_iff_eq,fun _ _=>beq_eq_false_iff_ne,fun _ _=>Int.not_lt,fun _ _=>Int.not_le⟩
section
variable {P:Program}{n:Nat}{F:Fr}{A:World→Prop}{Q:Exit→Act→World→Prop}{ops:Array Oper}{d:Nat}{ty:TypeId}{pos:String}{after:Array Edge}{rest:List Oper}{x:Operand}{v:Value}{c:Ctx}{H:List bQ}{t e:TypeId}
theorem St.mv (h:St n ((d,v)::F) A (wpList P ops Q rest))(hx:aL F x v:=by exact .mk rfl)(hd:Nat.ble (d+1) n=true:=by rfl):St n F A (wpList P ops Q ({dst:=some d,op:= .move x,type:=ty,pos:=pos,after:=after,guard:=none}::rest)):=St.ev _ (Ev.move hx) hd h
theorem St.ar (h:St n ((d,v)::F) A (wpList P ops Q rest))(hx:aL F x v:=by exact .mk rfl)(hd:Nat.ble (d+1) n=true:=by rfl):St n F A (wpList P ops Q ({dst:=some d,op:= .assign x,type:=ty,pos:=pos,after:=after,guard:=none}::rest)):=St.ev _ (Ev.assign hx) hd h
theorem p6 {α:Type}:∀(ps:List (Nat×α)) (k:Nat),ps.map (·.1)=List.range' k ps.length→ps=((ps.map (·.2)).zipIdx k).map fun p=>(p.2,p.1)
 | [],_,_=>rfl
 |(i,a)::ps,k,h=>by
  simp only[List.map_cons,List.length_cons,List.range'_succ,List.cons.injEq]at h
  simp only[List.map_cons,List.zipIdx_cons]
  rw[←p6 ps (k+1) h.2,h.1]
theorem St.cn {size:Nat}{vs:List Value}{ps:List (Nat×Operand)}{zv:Value}(hp:ps.map (·.1)=List.range' 0 ps.length)(hx:aV F (ps.map (·.2)) vs)(ht:P.underlying t=some (.slice e))(hs:(P.info? e).map (·.size)=some size)
 (hz:(P.info? e).bind (·.zero)=some zv) (mY:Nat.ble 1 size=true) (hlen:Nat.ble (vs.length*size) 16777216=true) (kp:∀u∈vs,u.cells.size=size) (hd:Nat.ble (d+1) n=true)
 {m:Nat} (hm:m=vs.length)
 (h:∀b,St n ((d,.slice (some ⟨b,0,none⟩) m m)::F) (Mm c (row (.slice (some ⟨b,0,none⟩) m m) e size m (vs.flatMap fun u=>u.cells.toList)::H)) (wpList P ops Q rest)):
 St n F (Mm c H) (wpList P ops Q ({dst:=some d,op:= .buildSlice t m ps.toArray,type:=ty,pos:=pos,after:=after,guard:=none}::rest)):=St.J7 (p6 ps 0 hp) hx ht hs hz mY hlen kp hd hm h
end
structure MK (κ:Type) where
 enc:κ→Value
 kd:TypeDesc
 same:∀a b:κ,∀ [DecidableEq κ],Instr.sameNow kd (enc a) (enc b)=some (decide (a=b))
 key:∀a,MapKept.IsKey kd (enc a)
 bits:∀a,Instr.sameBits 10000 (enc a) (enc a)=true
def mkStr:MK cV:=⟨fun s=>sv s,.string,fun a b _=>by
    simp only[Instr.sameNow,Option.some.injEq];rw[Bool.eq_iff_iff,MapKept.bytes_beq];simp,fun a=>by simp[MapKept.IsKey],fun a=>by simp only[Instr.sameBits];exact(MapKept.bytes_beq _ _).2 rfl⟩
section assoc
variable {κ:Type}[DecidableEq κ]
def nz:List (κ×Value)→κ→Option Value
 | [],_=>none
 |p::l,k=>if k=p.1 then some p.2 else nz l k
def jZ:List (κ×Value)→κ→Value→List (κ×Value)
 | [],k,v=>[(k,v)]
 |p::l,k,v=>if k=p.1 then(k,v)::l else p::jZ l k v
theorem FC (l:List (κ×Value))(k:κ)(v:Value)(k':κ):nz (jZ l k v) k'=if k'=k then some v else nz l k':=by
 induction l with
 |nil=>simp[jZ,nz]
 |cons p l ih=>
  unfold jZ
  by_cases h:k=p.1
  ·rw[if_pos h]
   simp only[nz]
   by_cases h2:k'=k
   ·rw[if_pos h2,if_pos h2]
   ·rw[if_neg h2,if_neg h2,if_neg (by rw[←h];exact h2)]
  ·rw[if_neg h]
   simp only[nz,ih]
   by_cases h2:k'=p.1
   ·rw[if_pos h2,if_pos h2,if_neg (fun e=>h (by rw[←e,h2]))]
   ·rw[if_neg h2,if_neg h2]
end assoc
section
variable {κ:Type}[DecidableEq κ]
def iQ (K:MK κ):List (κ×Value)→Nat→List MapEntry
 | [],_=>[]
 |p::l,i=>⟨K.enc p.1,p.2,i⟩::iQ K l (i+1)
def jq (K:MK κ)(l:List (κ×Value)):Obj:= .map (iQ K l 0).toArray l.length
omit [DecidableEq κ]in
def FD:List (κ×Value)→κ→Nat→Option (Nat×Value)
 | [],_,_=>none
 |p::l,k,i=>if k=p.1 then some (i,p.2)else FD l k (i+1)
theorem JF (l:List (κ×Value))(k:κ)(i:Nat):(FD l k i).map (·.2)=nz l k:=by
 induction l generalizing i with
 |nil=>rfl
 |cons p l ih=>simp only[FD,nz];split
               ·rfl
               ·exact ih _
theorem l3 (K:MK κ)(k:κ):∀(l:List (κ×Value)) (i c:Nat),Instr.findNow K.kd (K.enc k) (iQ K l i) c=some (FD l k c)
 | [],i,c=>rfl
 |p::l,i,c=>by
  simp only[iQ,Instr.findNow,K.same k p.1,FD]
  by_cases h:k=p.1
  ·simp[h]
  ·simp only[h,decide_false,if_false]
   exact l3 K k l _ _
omit [DecidableEq κ]in
theorem sW (K:MK κ)(k:κ)(v:Value):∀(l:List (κ×Value)) (i:Nat),iQ K (l++ [(k,v)]) i=iQ K l i++ [⟨K.enc k,v,i+l.length⟩]
 | [],i=>by simp[iQ]
 |p::l,i=>by simp only[List.cons_append,iQ,sW K k v l (i+1),List.length_cons];congr 4;omega
theorem DT {l:List (κ×Value)}{k:κ}{v:Value}{c:Nat}(h:FD l k c=none):jZ l k v=l++ [(k,v)]:=by
 induction l generalizing c with
 |nil=>rfl
 |cons p l ih=>
  simp only[FD]at h
  split at h
  ·cases h
  ·rename_i h1;unfold jZ;rw[if_neg h1,ih h];rfl
theorem vE {K:MK κ}{k:κ}{v u:Value}:∀{l:List (κ×Value)} {c j:Nat} (i:Nat),FD l k c=some (j,u)→c≤j∧j-c<l.length∧((iQ K l i)[j-c]?).map (·.key)=some (K.enc k)∧
 iQ K (jZ l k v) i=(iQ K l i).modify (j-c) (fun e=>{e with key:=K.enc k,val:=v})∧(jZ l k v).length=l.length
 | [],c,j,i,h=>by cases h
 |p::l,c,j,i,h=>by
  simp only[FD]at h
  split at h
  ·rename_i h1
   simp only[Option.some.injEq,Prod.mk.injEq]at h
   obtain⟨rfl,rfl⟩:=h;unfold jZ;rw[if_pos h1];subst h1
   simp[iQ]
  ·rename_i h1
   obtain⟨q1,q2,q3,q4,q5⟩:=vE (K:=K) (v:=v) (i+1) h
   have e:j-c=(j-(c+1))+1:=by omega
   unfold jZ;rw[if_neg h1];refine⟨by omega,by simp only[List.length_cons];omega,?_,?_,by simp[q5]⟩
   ·rw[e];simpa[iQ]using q3
   ·rw[e];simp only[iQ,List.modify_succ_cons,q4]
variable {P:Program}{n:Nat}{F:Fr}{A:World→Prop}{c:Ctx}{H R:List bQ}{ty t kt et:TypeId}{x y z:Operand}{v:Value}{Q:Exit→Act→World→Prop}{ops:Array Oper}{rest:List Oper}{d:Nat}{pos:String}{after:Array Edge}
class NZ (b:Nat)(H:List bQ)(κ:outParam Type)(K:outParam (MK κ))(l:outParam (List (κ×Value))):Prop where
 mem:ae b (jq K l)∈H
instance (priority:=high) NZ.here {κ:Type}(b:Nat)(K:MK κ)(l:List (κ×Value))(H:List bQ):NZ b (ae b (jq K l)::H) κ K l:=⟨List.mem_cons_self ..⟩
instance NZ.there {κ:Type}(b:Nat)(K:MK κ)(l:List (κ×Value))(E:bQ)(H:List bQ)[h:NZ b H κ K l]:NZ b (E::H) κ K l:=⟨List.mem_cons_of_mem _ h.mem⟩
class vG (b:Nat)(H:List bQ)(κ:outParam Type)(K:outParam (MK κ))(l:outParam (List (κ×Value)))(R:outParam (List bQ)):Prop where
 perm:H.Perm (ae b (jq K l)::R)
instance (priority:=high) vG.here {κ:Type}(b:Nat)(K:MK κ)(l:List (κ×Value))(H:List bQ):vG b (ae b (jq K l)::H) κ K l H:=⟨.refl _⟩
instance vG.there {κ:Type}(b:Nat)(K:MK κ)(l:List (κ×Value))(E:bQ)(H R:List bQ)[h:vG b H κ K l R]:vG b (E::H) κ K l (E::R):=⟨(h.perm.cons E).trans (.swap ..)⟩
omit [DecidableEq κ]in
theorem St.makeMap (K:MK κ)(hd:Nat.ble (d+1) n=true)(h:∀b,St n ((d,.map (some b))::F) (Mm c (ae b (jq K [])::H)) (wpList P ops Q rest)):
 St n F (Mm c H) (wpList P ops Q ({dst:=some d,op:= .makeMap t none,type:=ty,pos:=pos,after:=after,guard:=none}::rest)):=by
 refine St.Eg (K:=fun u H'=>∃b,u= .map (some b)∧H'=ae b (jq K [])::H) ?_ hd ?_
 ·intro a w ρ ha hm
  refine⟨.value (.map (some w.heap.size)),w.alloc (.map #[] 0),ρ,_,?_,⟨_,.inl rfl,_,rfl,rfl⟩,hm.alloc _⟩
  simp[execOp,RowKit.run_makeMap]
 ·rintro _ _ ⟨b,rfl,rfl⟩
  exact h b
theorem FE {zv:Value}{w:World}(hz:(P.info? et).bind (·.zero)=some zv):(zeroValue et).run P w= .ok zv w:=by
 obtain⟨i,hi,Pq⟩:=Option.bind_eq_some_iff.1 hz
 simp[zeroValue,typeInfo,hi,Pq]
theorem sX (K:MK κ){l:List (κ×Value)}{b:Nat}{k:κ}{zv:Value}{w:World}(ok:Bool)(ht:P.underlying t=some (.map kt et))(hk:P.underlying kt=some K.kd)(hz:(P.info? et).bind (·.zero)=some zv)(hb:w.heap[b]?=some (jq K l)):
 (Instr.lookup t (.map (some b)) (K.enc k) ok).run P w= .ok (if ok then .tuple #[(nz l k).getD zv,.bool (nz l k).isSome]else(nz l k).getD zv) w:=by
 have h1:=MapKept.run_findKey (w:=w) hk (l3 K k l 0 0)
 have h2:=FE (P:=P) (w:=w) hz
 have h3:=MapKept.run_getObj_map (P:=P) hb
 have h4:=MapKept.run_checkKey (w:=w) hk (K.key k) (iQ K l 0).toArray.isEmpty 9999
 simp only[Instr.lookup,Sem.run_bind,run_underlying ht,Result.andThen_ok,h3,Sem.run_pure,h4,h1,←JF l k 0]
 cases hm:FD l k 0 with
 |none=>simp[h2]
 |some p=>simp
theorem Ev.lookup (K:MK κ){l:List (κ×Value)}{b:Nat}{k:κ}{zv:Value}[hb:NZ b H κ K l](hx:aL F x (.map (some b)))(hy:aL F y (K.enc k))(ht:P.underlying t=some (.map kt et))(hk:P.underlying kt=some K.kd)(hz:(P.info? et).bind (·.zero)=some zv):
 Ev P n F (Mm c H) (.lookup t x y false) ty ((nz l k).getD zv):= .of_run fun a w ha hw=>by
 obtain⟨ρ,hm⟩:=hw.out
 have:=sX (P:=P) K (k:=k) false ht hk hz (eO.1 (hm.dF _ hb.mem))
 simp[execOp,hx.eval ha,hy.eval ha,this]
theorem Ev.ry (K:MK κ){l:List (κ×Value)}{b:Nat}{k:κ}{zv:Value}[hb:NZ b H κ K l](hx:aL F x (.map (some b)))(hy:aL F y (K.enc k))(ht:P.underlying t=some (.map kt et))(hk:P.underlying kt=some K.kd)(hz:(P.info? et).bind (·.zero)=some zv):
 Ev P n F (Mm c H) (.lookup t x y true) ty (.tuple #[(nz l k).getD zv,.bool (nz l k).isSome]):= .of_run fun a w ha hw=>by
 obtain⟨ρ,hm⟩:=hw.out
 have:=sX (P:=P) K (k:=k) true ht hk hz (eO.1 (hm.dF _ hb.mem))
 simp[execOp,hx.eval ha,hy.eval ha,this]
omit [DecidableEq κ]in
theorem FF (K:MK κ)(k:κ)(w:World):(Instr.keyThatStays (K.enc k) (K.enc k)).run P w= .ok (K.enc k) w:=by
 simp[Instr.keyThatStays,K.bits k]
theorem uY (K:MK κ){l:List (κ×Value)}{b:Nat}{k:κ}{w:World}(ht:P.underlying t=some (.map kt et))(hk:P.underlying kt=some K.kd)(hb:w.heap[b]?=some (jq K l)):
 (Instr.mapUpdate t (.map (some b)) (K.enc k) v).run P w= .ok () {w with heap:=w.heap.setIfInBounds b (jq K (jZ l k v))}:=by
 have h1:=MapKept.run_findKey (w:=w) hk (l3 K k l 0 0)
 have h3:=MapKept.run_getObj_map (P:=P) hb
 have h4:=MapKept.run_checkKey (w:=w) hk (K.key k) false 9999
 simp only[Instr.mapUpdate,Sem.run_bind,run_underlying ht,Result.andThen_ok,h3,h4,h1]
 cases hm:FD l k 0 with
 |none=>
  have e:jq K (jZ l k v)= .map ((iQ K l 0).toArray.push {key:=K.enc k,val:=v,born:=l.length}) (l.length+1):=by
   rw[DT hm]
   simp[jq,sW]
  rw[e];exact MapKept.run_setObj_map (P:=P) _ hb
 |some p=>
  obtain⟨j,u⟩:=p;obtain⟨_,q2,q3,q4,q5⟩:=vE (K:=K) (v:=v) 0 hm
  have e:jq K (jZ l k v)= .map ((iQ K l 0).toArray.modify j fun e=>{e with key:=K.enc k,val:=v}) l.length:=by
   unfold jq;rw[q4,q5]
   simp
  rw[e]
  have q3':(((iQ K l 0).toArray[j]?).map (·.key)).getD (K.enc k)=K.enc k:=by
   simp only[Nat.sub_zero]at q3
   simp[q3]
  simp only[q3',Sem.run_bind,FF,Result.andThen_ok]
  exact MapKept.run_setObj_map (P:=P) _ hb
theorem St.mapUpdate (K:MK κ){l:List (κ×Value)}{b:Nat}{k:κ}[tk:vG b H κ K l R](hx:aL F x (.map (some b)))(hy:aL F y (K.enc k))(hz:aL F z v)(ht:P.underlying t=some (.map kt et))(hk:P.underlying kt=some K.kd)
 (h:St n F (Mm c (ae b (jq K (jZ l k v))::R)) (wpList P ops Q rest)):
 St n F (Mm c H) (wpList P ops Q ({dst:=none,op:= .mapUpdate t x y z,type:=ty,pos:=pos,after:=after,guard:=none}::rest)):=by
 refine St.lk (K:=fun u H'=>H'=ae b (jq K (jZ l k v))::R) ?_ ?_
 ·intro a w ρ ha hm
  have jC:=hm.perm tk.perm
  have hb:=eO.1 (jC.dF _ (List.mem_cons_self ..))
  have hr:=uY (P:=P) K (k:=k) (v:=v) ht hk hb
  refine⟨.skip,{w with heap:=w.heap.setIfInBounds b (jq K (jZ l k v))},ρ,_,?_,⟨_,.inr ⟨rfl,rfl⟩,rfl⟩,?_⟩
  ·simp[execOp,hx.eval ha,hy.eval ha,hz.eval ha,hr]
  ·have hs:=MapKept.heap_set (o':=jq K (jZ l k v)) hb
   refine jC.alter rfl ⟨rfl,Nat.le_refl _⟩ rfl (by simp) (fun j hj fj=> ?_) (eO.2 hs.1) (fun b' iu=>by rw[fK]at iu⊢;exact .inl iu);rw[fK]at fj;exact hs.2 j (fun e=>fj (by rw[e]))
 ·rintro _ _ rfl
  exact h
omit [DecidableEq κ]in
end
section
variable {n:Nat}{F:Fr}{c:Ctx}{H R:List bQ}{T:Act→World→Prop}
theorem St.fI {ι:Sort _}(d:df)[hd:jW d H](L:ι→List df)(h:∀ρ,d.f ρ→∃x,∀e∈L x,e.f ρ)(k:∀x,St n F (Mm c ((L x).map aF++H)) T):St n F (Mm c H) T:=by
 intro a w ha hw;obtain⟨ρ,hm⟩:=hw.out;obtain⟨x,hx⟩:=h ρ (dV.1 (hm.dF _ hd.mem));exact k x a w ha (Mm.mk (hm.yM (L x) hx))
theorem St.fo (d:df)(L:List df)[hd:oP L H](h:∀ρ,(∀e∈L,e.f ρ)→d.f ρ)(k:St n F (Mm c (aF d::H)) T):St n F (Mm c H) T:=
 St.fact d (fun ρ w hm=>h ρ fun e he=>dV.1 (hm.dF _ (hd.mem e he))) k
def yE {α:Type}(Rr:Rp α)(v:Value)(l:List (List α)):df:=⟨fun ρ=>∃vs:List cm,vs.length=l.length∧(sl cK v vs).f ρ∧(ku Rr vs l).f ρ,
 fun ρ iK h ⟨vs,h1,h2,h3⟩=>⟨vs,h1,(sl cK v vs).mono _ _ h h2,(ku Rr vs l).mono _ _ h h3⟩⟩
class DU (v:Value)(H:List bQ)(α:outParam Type)(R:outParam (Rp α))(xs:outParam (List (List α))):Prop where
 mem:aF (yE R v xs)∈H
instance (priority:=high) DU.here {α:Type}(v:Value)(R:Rp α)(xs:List (List α))(H:List bQ):DU v (aF (yE R v xs)::H) α R xs:=⟨List.mem_cons_self ..⟩
instance DU.there {α:Type}(v:Value)(R:Rp α)(xs:List (List α))(E:bQ)(H:List bQ)[h:DU v H α R xs]:DU v (E::H) α R xs:=⟨List.mem_cons_of_mem _ h.mem⟩
theorem St.oT {α:Type}{Rr:Rp α}{l:List (List α)}(v:Value)[hd:DU v H α Rr l](k:∀vs:List cm,vs.length=l.length→St n F (Mm c (aF (sl cK v vs)::aF (J.ku Rr vs l)::H)) T):St n F (Mm c H) T:=by
 intro a w ha hw;obtain⟨ρ,hm⟩:=hw.out;obtain⟨vs,h1,h2,h3⟩:=dV.1 (hm.dF _ hd.mem);exact k vs h1 a w ha (Mm.mk ((hm.fact _ h3).fact _ h2))
theorem St.FG {α:Type}{Rr:Rp α}{l:List (List α)}(v:Value){vs:List cm}[h1:jW (sl cK v vs) H][h2:jW (J.ku Rr vs l) H](hl:vs.length=l.length)(k:St n F (Mm c (aF (yE Rr v l)::H)) T):St n F (Mm c H) T:=
 St.fact (yE Rr v l) (fun ρ w hm=>⟨vs,hl,dV.1 (hm.dF _ h1.mem),dV.1 (hm.dF _ h2.mem)⟩) k
theorem FH {α:Type}{Rr:Rp α}{vs:List cm}{hG:List (List α)}{u:cm}{x:List α}{ρ:Ro}(h:(J.ku Rr vs hG).f ρ)(hu:(sl Rr u.1 x).f ρ)(hl:vs.length=hG.length):(J.ku Rr (vs++ [u]) (hG++ [x])).f ρ:=by
 intro i u' l' h1 h2
 rcases Nat.lt_or_ge i vs.length with hi|hi
 ·rw[List.getElem?_append_left hi]at h1
  rw[List.getElem?_append_left (by omega)]at h2;exact h i u' l' h1 h2
 ·rw[List.getElem?_append_right hi]at h1
  rw[List.getElem?_append_right (by omega)]at h2
  have hi0:i-vs.length=0:=by
   have:=(List.getElem?_eq_some_iff.1 h1).1
   simp at this;omega
  rw[hi0]at h1;rw[show i-hG.length=0 by omega]at h2
  simp only[List.getElem?_cons_zero,Option.some.injEq]at h1 h2
  subst h1 h2;exact hu
theorem St.p7 {α:Type}{Rr:Rp α}(vs:List cm)(u:cm){x:List α}{hG:List (List α)}[h1:Lw vs H α Rr hG][h2:sM u.1 H α Rr x](hl:vs.length=hG.length)(k:St n F (Mm c (aF (J.ku Rr (vs++ [u]) (hG++ [x]))::H)) T):St n F (Mm c H) T:=
 St.fact _ (fun ρ w hm=>FH (dV.1 (hm.dF _ h1.mem)) (dV.1 (hm.dF _ h2.mem)) hl) k
theorem eg {α:Type}{xs:List α}{x:α}:xs.length+1=(xs++ [x]).length:=by rw[List.length_append];rfl
theorem St.Qe {α:Type}{Rr:Rp α}(vs:List cm){hG:List (List α)}[h1:Lw vs H α Rr hG](hl:vs.length=hG.length)(k:(∀xs∈hG,∀x∈xs,Rr.wf x)→St n F (Mm c H) T):St n F (Mm c H) T:=by
 intro a w ha hw;obtain⟨ρ,hm⟩:=hw.out;refine k (fun xs hxs x hx=> ?_) a w ha hw;obtain⟨i,hi,he⟩:=List.mem_iff_getElem.1 hxs
 have hv:i<vs.length:=by omega
 obtain⟨_,_,_,_,_,h4,_⟩:=dV.1 (hm.dF _ h1.mem) i vs[i] xs (List.getElem?_eq_getElem hv) (by rw[List.getElem?_eq_getElem hi,he]);exact h4 x hx
theorem St.qK {α:Type}(Rr:Rp α)(k:St n F (Mm c (aF (J.ku Rr [] [])::H)) T):St n F (Mm c H) T:=
 St.fact _ (fun _ _ _=>show(J.ku Rr [] []).f _ from fun i u l hu=>by simp at hu) k
theorem St.hJ {α:Type}(Rr:Rp α)(k:St n F (Mm c (aF (sl Rr (.slice none 0 0) [])::H)) T):St n F (Mm c H) T:=St.fact _ (fun _ _ _=>Ae Rr _) k
end
section
variable {P:Program}{Q:Exit→Act→World→Prop}{n:Nat}{F:Fr}{c:Ctx}{H Fp:List bQ}
theorem SW.split {ops:Array Oper}{r:List bQ}{f:Nat}{listed:Array Bool}(k:Nat)(b:Bool)(hk:look F k=some (.bool b))(ht:b=true→SW P ops Q n ((k,.bool true)::F) c Fp r f listed)(hf:b=false→SW P ops Q n ((k,.bool false)::F) c Fp r f listed):SW P ops Q n F c Fp r f listed:=by
 cases b with
 |true=>exact SW.slot k (.bool true) hk rfl (ht rfl)
 |false=>exact SW.slot k (.bool false) hk rfl (hf rfl)
theorem St.XH {id:Nat}{l:List Oper}(L:List bQ)[tk:jS L H Fp](hm:P.follows .mixedOrders=true)
 (h:SW P l.toArray Q n F c Fp L l.length (Array.replicate l.length false)):St n F (Mm c H) ((Code.region id l.toArray true).wp P Q):=by
 intro a w ha hw;refine wp_region_any hm ?_
 have h1:=h a ha
 have h2:Mm c (Fp++L) {w with drawn:=w.drawn+1}:=by
  obtain⟨ρ,k⟩:=((Mm.drawn c H) w hw).out;exact Mm.mk (k.perm (tk.perm.trans List.perm_append_comm))
 simpa using WR.any (C:=fun R=>Mm c (Fp++R)) l.length _ a L _ h2 h1
end
section
variable {P:Program}{Q:Exit→Act→World→Prop}{n:Nat}{F:Fr}{c:Ctx}{H Fp r:List bQ}
theorem St.eK {id:Nat}{l:List Oper}(L:List bQ)[tk:jS L H Fp](hm:P.follows .mixedOrders=true)
 (h:NP Q→Region.noSelect l.toArray=true→SW P l.toArray Q n F c Fp L l.length (Array.replicate l.length false)) (hQ:NP Q:=by repeat(first|refine NP.then ?_|refine NP.inBlock ?_|exact NP.body)) (hs:Region.noSelect l.toArray=true:=by kernel_rfl):St n F (Mm c H) ((Code.region id l.toArray true).wp P Q):=
 St.XH L hm (h hQ hs)
theorem St.yS {id:Nat}{l:List Oper}(bs:List Nat)[tk:sV bs H r Fp](hm:P.follows .mixedOrders=true)
 (h:NP Q→Region.noSelect l.toArray=true→SW P l.toArray Q n F c Fp r l.length (Array.replicate l.length false)) (hQ:NP Q:=by repeat(first|refine NP.then ?_|refine NP.inBlock ?_|exact NP.body)) (hs:Region.noSelect l.toArray=true:=by kernel_rfl):St n F (Mm c H) ((Code.region id l.toArray true).wp P Q):=
 St.par bs hm (h hQ hs)
end
end Go.J
namespace Go.J
open Go Go.ChangeShapes Go.WideShapes Go.ChangeAt Go.RowKit Go.Deep
section
variable {H:Type}{enc:TypeId×Value→H}{P:Program}{W:World}{α:Type}
end
theorem yT {P : Program} {W : World} {g3 g4 T3 T4 T5 TS : Nat} {fs : Array Field} (n3 : P.globalNamed "unicode/utf8.first" = some g3) (n4 : P.globalNamed "unicode/utf8.acceptRanges" = some g4)
 (y3:(P.globals[g3]?).map (·.type)=some T3) (y4:(P.globals[g4]?).map (·.type)=some T4) (t3:P.underlying T3=some (.array 256 T5)) (t5:P.underlying T5=some (.int .u8)) (t4:P.underlying T4=some (.array 16 TS)) (ts:P.underlying TS=some (.struct fs))
 (hf:∀(i:Nat) (f:Field),fs[i]?=some f→P.underlying f.type=some (.int .u8)∧f.offset=i∧P.cellsOf f.type=1) (hfs:fs.size=2) (c5:P.cellsOf T5=1) (c3:P.cellsOf T3=256) (cs:P.cellsOf TS=2)
 {l : List (String × DataW Unit)} (h : laidMetH P l W) (hp : (laidMetH P l W) = laidMet P l W) (m3 : ("unicode/utf8.first", Lib.firstData) ∈ l) (m4 : ("unicode/utf8.acceptRanges", Lib.acceptData) ∈ l) : Lib.Utf8Tabs g3 g4 W := by
 rw[hp]at h
 have h3:=Lib.laidMet.reads h m3
 have h4:=Lib.laidMet.reads h m4
 refine⟨fun c hc=> ?_,fun i hi=> ?_⟩
 ·obtain⟨g,t,cs,fuel,p,hg,uZ,yU,hd⟩:=h3
  obtain rfl:=Option.some.inj (n3.symm.trans hg);obtain rfl:=Option.some.inj (y3.symm.trans uZ)
  have kp:=Lib.cells_of_tab t3 t5 c5 c3 hd
  have:=World.var?_cell hg yU c
  rw[this,←Array.getElem?_toList,kp]
  simp[Lib.firstTab,hc]
 ·obtain⟨g,t,cells,fuel,p,hg,uZ,yU,hd⟩:=h4
  obtain rfl:=Option.some.inj (n4.symm.trans hg);obtain rfl:=Option.some.inj (y4.symm.trans uZ);obtain⟨ab3,d,q,Qc,he⟩:=Lib.array_elem t4 hd i hi
  simp only[List.getElem?_map,List.getElem?_range hi,Option.map_some,Option.some.injEq]at Qc
  subst Qc;rw[cs]at he
  have kp:=Lib.ints_of_struct ts hf (by rw[cs,hfs]) he
  have e0:=congrArg (·[0]?) kp
  have e1:=congrArg (·[1]?) kp
  simp only[List.getElem?_take,List.getElem?_drop]at e0 e1
  constructor
  ·rw[World.var?_cell hg yU (2*i),←Array.getElem?_toList]
   simpa[Nat.mul_comm]using e0
  ·rw[World.var?_cell hg yU (2*i+1),←Array.getElem?_toList]
   simpa[Nat.mul_comm]using e1
theorem sY {W w:World}(h:∀(k:Nat) (o:Obj),W.heap[k]?=some o→w.heap[k]?=some o){g o:Nat}{v:Value}(hc:W.cell? ⟨g,o,none⟩=some v):w.cell? ⟨g,o,none⟩=some v:=by
 obtain⟨_,C,e,fr,hb,hv⟩:=fm hc
 rw[cW (h _ _ hb)];exact hv
theorem wa {W w:World}{g3 g4:Nat}(h:Lib.Utf8Tabs g3 g4 W)(hw:∀(k:Nat) (o:Obj),W.heap[k]?=some o→w.heap[k]?=some o):Lib.Utf8Tabs g3 g4 w:=
 ⟨fun c hc=>sY hw (h.1 c hc),fun i hi=>⟨sY hw (h.2 i hi).1,sY hw (h.2 i hi).2⟩⟩
end Go.J
namespace Go.J
open Go
section
variable {α:Type}
theorem l5 {p:α→Bool}{s:List α}{k:Nat}{d:α}(h:(s.take k).all p=true)(hk:p (s.getD k d)=true):(s.take (k+1)).all p=true:=by
 by_cases hl:k<s.length
 ·rw[List.take_succ_eq_append_getElem hl,List.all_append,h]
  rw[List.getD_eq_getElem?_getD,List.getElem?_eq_getElem hl]at hk
  simpa using hk
 ·rw[List.take_of_length_le (by omega)];rwa[List.take_of_length_le (by omega)]at h
theorem wb {p:α→Bool}{s:List α}{k:Nat}{d:α}(hk:k<s.length)(h:p (s.getD k d)=false):s.all p=false:=by
 rw[List.getD_eq_getElem?_getD,List.getElem?_eq_getElem hk]at h;rw[List.all_eq_false];exact⟨s[k],List.getElem_mem hk,by simpa using h⟩
theorem mg {p:α→Bool}{s:List α}{k:Nat}(h:(s.take k).all p=true)(hk:s.length≤k):s.all p=true:=by rwa[List.take_of_length_le hk]at h
theorem aQ {s:List α}{k:Nat}(h:k<s.length):∃x,s[k]?=some x:=⟨_,List.getElem?_eq_getElem h⟩
theorem bf {s:List α}{k:Nat}{x:α}(h:s[k]?=some x):s.drop k=x::s.drop (k+1):=by
 obtain⟨hl,rfl⟩:=List.getElem?_eq_some_iff.1 h;exact List.drop_eq_getElem_cons hl
theorem cG {s:List α}{k:Nat}{x:α}(h:s[k]?=some x):k<s.length:=(List.getElem?_eq_some_iff.1 h).1
theorem bJ {s:List α}{k:Nat}{x:α}(h:s[k]?=some x):s.take (k+1)=s.take k++ [x]:=by
 obtain⟨hl,rfl⟩:=List.getElem?_eq_some_iff.1 h;exact List.take_succ_eq_append_getElem hl
end
theorem be {a b:Bool}(h:a=b):DL [Value.bool a]= .bool b:=by rw[h];rfl
theorem ie {a b:Int}(h:a=b):DL [iv a]=iv b:=by rw[h];rfl
def ix {β:Type}(p:β→Bool)(l:List β):Int:=match l.findIdx? p with|some i=>(i:Int)|none=> -1
def fv (f:Int×Int):Value:= .agg #[iv f.1,iv f.2]
theorem fe {a b:Int}{f:Int×Int}(h:f=(a,b)):DL [.agg #[iv a,iv b]]=fv f:=by rw[h];rfl
def low (c:UInt8):Bool:=decide ((97:Int)≤c.toNat)&&decide ((c.toNat:Int)≤122)
def digit (c:UInt8):Bool:=decide ((48:Int)≤c.toNat)&&decide ((c.toNat:Int)≤57)
def eh (c:UInt8):Bool:=low c||digit c||decide ((c.toNat:Int)=95)||decide ((c.toNat:Int)=45)
def isName (s:cV):Bool:=decide (0<s.length)&&decide (s.length≤30)&&low (s.getD 0 0)&&s.all eh
theorem sZ {s:cV}(h:isName s=true):0<s.length∧s.length≤30:=by
 simp only[isName,Bool.and_eq_true,decide_eq_true_eq]at h
 exact⟨h.1.1.1,h.1.1.2⟩
theorem j3 {s:cV}(h:((s.length:Int)=0∨30<(s.length:Int))∨((s.getD 0 0).toNat:Int)<97∨122<((s.getD 0 0).toNat:Int)):isName s=false:=by
 simp only[isName,low,Bool.and_eq_false_iff,decide_eq_false_iff_not]
 left;omega
theorem mh {s:cV}{k:Nat}(hk:k<s.length)(h:eh (s.getD k 0)=false):isName s=false:=by
 simp only[isName,wb hk h,Bool.and_false]
theorem mi {s:cV}(h0:0<s.length)(h1:s.length≤30)(h2:low (s.getD 0 0)=true)(h:s.all eh=true):isName s=true:=by
 simp only[isName,h2,h,Bool.and_true,Bool.and_eq_true,decide_eq_true_eq]
 exact⟨h0,h1⟩
abbrev uv (n:Nat):Value:= .int .u64 (n:Int)
section
variable {P:Program}{n:Nat}{F:Fr}{A:World→Prop}{ty:TypeId}{x y:Operand}{t u:TypeId}{a b:Nat}
theorem Qf {i:Int}:IntKind.u64.wrap i=i%18446744073709551616:=by
 simp only[IntKind.wrap,IntKind.bits,IntKind.signed];simp
theorem lN (m:Nat):IntKind.u64.wrap (m:Int)=((m%18446744073709551616:Nat):Int):=by rw[Qf];omega
theorem Ev.Na {k:IntKind}{j:Int}(c m:Nat)(hm:2^c=m)(hx:aL F x (uv a))(hy:aL F y (.int k j))(h:j=c∧c≤64):Ev P n F A (.binOp .shr t x y u) ty (uv (a/m)):=by
 subst hm;obtain⟨rfl,hc⟩:=h
 have:=Ev.shr (P:=P) (n:=n) (A:=A) (ty:=ty) (t:=t) (u:=u) hx hy (by omega)
 have e:(a:Int).fdiv (2^(min (c:Int).toNat IntKind.u64.bits))=((a/2^c:Nat):Int):=by
  have e1:min (c:Int).toNat IntKind.u64.bits=c:=by
   have:IntKind.u64.bits=64:=rfl
   rw[this,Int.toNat_natCast];omega
  rw[e1,Int.fdiv_eq_ediv_of_nonneg _ (Int.le_of_lt (Int.pow_pos (by omega)))]
  simp
 rw[e]at this;exact this
theorem Ev.XI {k:IntKind}{j:Int}(c m:Nat)(hm:2^c=m)(hx:aL F x (uv a))(hy:aL F y (.int k j))(h:j=c∧c≤64):Ev P n F A (.binOp .shl t x y u) ty (uv (a*m%18446744073709551616)):=by
 subst hm;obtain⟨rfl,hc⟩:=h
 have:=Ev.Ws (P:=P) (n:=n) (A:=A) (ty:=ty) (t:=t) (u:=u) hx hy (by omega)
 have e:(a:Int)*2^(min (c:Int).toNat IntKind.u64.bits)=((a*2^c:Nat):Int):=by
  have e1:min (c:Int).toNat IntKind.u64.bits=c:=by
   have:IntKind.u64.bits=64:=rfl
   rw[this,Int.toNat_natCast];omega
  rw[e1];simp
 rw[e,lN]at this;exact this
theorem FI (c:Nat)(h:a<18446744073709551616)(hc:c≤64):bits .and .u64 (a:Int) ((2^c-1:Nat):Int)=((a%2^c:Nat):Int):=by
 have hb:2^c-1<2^64:=by have:=Nat.pow_le_pow_right (n:=2) (by omega) hc;have:=Nat.pow_pos (n:=c) (a:=2) (by omega);omega
 have e:(BitVec.ofInt IntKind.u64.bits (a:Int)&&&BitVec.ofInt IntKind.u64.bits ((2^c-1:Nat):Int)).toNat=a%2^c:=by
  show(BitVec.ofInt 64 (a:Int)&&&BitVec.ofInt 64 ((2^c-1:Nat):Int)).toNat=_
  rw[BitVec.toNat_and,BitVec.ofInt_natCast,BitVec.ofInt_natCast,BitVec.toNat_ofNat,BitVec.toNat_ofNat,Nat.mod_eq_of_lt h,Nat.mod_eq_of_lt hb,Nat.and_two_pow_sub_one_eq_mod]
 simp only[bits,e]
 rw[lN,Nat.mod_eq_of_lt (Nat.lt_of_le_of_lt (Nat.mod_le a _) h)]
theorem Ev.Qg (c m:Nat)(hm:2^c=m)(hx:aL F x (uv a))(hy:aL F y (uv b))(h:a<18446744073709551616∧b=2^c-1∧c≤64):Ev P n F A (.binOp .and t x y u) ty (uv (a%m)):= .of_run fun a' w ha _=>by
 subst hm;obtain⟨h1,rfl,h3⟩:=h
 simp only[execOp,hx.eval ha,hy.eval ha];simp only[go_sem,FI c h1 h3];simp
theorem Ev.Nb (m:Nat){i:Int}{s d:TypeId}(hx:aL F x (iv i))(hs:(P.underlying s).isSome=true)(hd:P.underlying d=some (.int .u64))(h:i=m∧m<18446744073709551616):Ev P n F A (.convert s d x) ty (uv m):=by
 obtain⟨rfl,h⟩:=h
 have:=Ev.Lr (P:=P) (n:=n) (A:=A) (ty:=ty) hx hs hd
 rwa[lN,Nat.mod_eq_of_lt h]at this
theorem Ev.sa {k:IntKind}{s d:TypeId}(hx:aL F x (.int k (a:Int)))(hs:(P.underlying s).isSome=true)(hd:P.underlying d=some (.int .i64))(h:a<9223372036854775808):Ev P n F A (.convert s d x) ty (iv a):=by
 have:=Ev.Lr (P:=P) (n:=n) (A:=A) (ty:=ty) hx hs hd
 rwa[rp (by omega)]at this
end
section
variable {P:Program}{n:Nat}{F:Fr}{A:World→Prop}{ty:TypeId}{x y:Operand}{t:TypeId}
end
section
variable {P:Program}{n:Nat}{F:Fr}{A:World→Prop}{c:Ctx}{H R:List bQ}{T:Act→World→Prop}{v v':Value}
theorem St.gS (b:Nat){e:TypeId}{L:List Value}(L':List Value)[tk:lK b H (.cells L.toArray e (0,0)) R](h:L=L')(hT:St n F (Mm c (ae b (.cells L'.toArray e (0,0))::R)) T):St n F (Mm c H) T:=by
 subst h
 refine hT.sL fun w hw=> ?_
 obtain⟨ρ,hm⟩:=hw.out;exact Mm.mk (hm.perm tk.perm)
end
end Go.J
namespace Go.J
open Go Go.RowKit
section
variable {P:Program}{n:Nat}{F:Fr}{A:World→Prop}{c:Ctx}{H R:List bQ}{ty t e:TypeId}{x y:Operand}{Q:Exit→Act→World→Prop}{ops:Array Oper}{rest:List Oper}{pos:String}{after:Array Edge}
end
def df.of (X:World→Prop):df:=⟨fun ρ=>∀w,(∀k o,ρ k=some o→w.heap[k]?=some o)→X w,fun _ _ h k w hw=>k w fun b o hb=>hw b o (h b o hb)⟩
theorem DK.mj {P:Program}{f:FuncId}{args:Array Value}{X:World→Prop}{post:Value→List bQ→Prop}(h:∀w,X w→Calls P f args w fun e w'=>∃v,e= .returned v∧post v []∧Below w.heap.size w w'):
 DK P f args ([df.of X].map aF) post:=by
 intro w ρ hs
 have hx:X w:=dV.1 (hs.dF (aF (df.of X)) (List.mem_cons_self ..)) w hs.fits
 refine(h w hx).mono ?_;rintro e w' ⟨v,rfl,hp,hb⟩;refine⟨v,[],rfl,hp,Mm.mk (ρ:=ρ) ⟨hb.os,⟨hb.tape,fun h=>h.elim⟩,hb.output,hb.size,fun k hk _=>hb.block k hk,fun k o hk=> ?_,Ro.le_refl _,fun _ _ _=>rfl,fun _ h=>by simp at h,fun _ h=>by simp at h,.nil⟩⟩;rw[hb.block k (hs.Lo hk)];exact hs.fits k o hk
theorem gj.mj {P:Program}{f:FuncId}{args:Array Value}{X:World→Prop}{v:Value}(h:∀w,X w→Calls P f args w fun e w'=>e= .returned v∧Below w.heap.size w w'):gj P f args [df.of X] v:=
 DK.mj fun w hw=>(h w hw).mono fun _ _ ⟨h1,h2⟩=>⟨v,h1,rfl,h2⟩
end Go.J
namespace Go.J
open Go Go.ChangeShapes Go.WideShapes Go.ChangeAt Go.RowKit Go.Deep
section
variable {H:Type}{enc:TypeId×Value→H}{P:Program}{W:World}
theorem JG {t e:TypeId}{L:List cV}{Ly:List Value}{p:List MemPlace}{fuel base:Nat}{sp:Nat→Bool}{held:Bool}(ht:P.underlying t=some (.slice e))(he:P.underlying e=some .string)(hc:P.cellsOf e=1)(fj:L≠ [])(hL:∀s∈L,s.length≤140737488351232)
 (hf:DataW.trod enc P W base sp held fuel t Ly=some (.slice (L.map fun s=> .lit (.string s)) [],p)):∃v:cm,Ly=[v.1]∧(sl ff v.1 L).f (J.all W):=by
 obtain⟨a,cap,kp,hl,Qh⟩:=open_row ht hc hf;rw[List.length_map]at kp hl
 have hm:cap≤maxLen:=by
  rcases DataW.trod_slice ht hf with⟨_,hx⟩|⟨a',len,we,elems,rest,n,_,Nc,_,_,_,hm,_⟩
  ·simp at hx
  ·rw[kp]at Nc
   simp only[List.cons.injEq,Value.slice.injEq,and_true]at Nc
   rw[Nc.2.2];exact hm
 have each:∀i s,L[i]?=some s→W.cell? (a.add i)=some (sv s):=fun i s hs=>by
  obtain⟨v,n,q,h1,h2⟩:=Qh i (.lit (.string s)) (by rw[List.getElem?_map,hs];rfl);obtain⟨b,hb,hy,_⟩:=DataW.trod_string he h2
  cases hb
  have hy:=(Prod.mk.inj hy).1
  simp only[DataW.lit.injEq,Lit.string.injEq]at hy
  rw[h1,Lx,hy]
 have mY:0<L.length:=List.length_pos_iff.2 fj
 obtain⟨b,off,spot⟩:=a
 obtain⟨s0,Nd⟩:∃s,L[0]?=some s:=⟨_,List.getElem?_eq_getElem mY⟩
 obtain⟨yV,C,e',fr,hb,_⟩:=fm (each 0 s0 Nd)
 have yV:spot=none:=by simpa[Addr.add]using yV
 subst yV
 have hb:W.heap[b]?=some (.cells C e' fr):=by simpa[Addr.add]using hb
 refine⟨⟨.slice (some ⟨b,off,none⟩) L.length cap,rfl⟩,kp,⟨_,cap,rfl,hl,hm,hL,.inr ⟨b,off,C,e',fr,rfl,hb,fun j u hj=> ?_⟩⟩⟩;obtain⟨i,k,x,h1,h2,h3,h4⟩:=wX _ _ _ hj
 have hk:k=0:=by have:ff.size=1:=rfl;omega
 subst hk
 have hu:u=sv x:=by simpa[ff]using h4.symm
 have wZ:j=i:=by have:ff.size=1:=rfl;rw[this]at h3;omega
 subst hu wZ;obtain⟨_,C',XJ,XK,iu,p8⟩:=fm (each j x h1)
 have iu:W.heap[b]?=some (.cells C' XJ XK):=by
  by_cases h0:j=0
  ·subst h0;simpa[Addr.add]using iu
  ·simpa[Addr.add,h0]using iu
 have p8:C'[off+j]?=some (sv x):=by
  by_cases h0:j=0
  ·subst h0;simpa[Addr.add]using p8
  ·simpa[Addr.add,h0]using p8
 rw[hb]at iu
 simp only[Option.some.injEq,Obj.cells.injEq]at iu
 rw[iu.1];exact p8
theorem JH {nm:String}{g T e:Nat}{L:List cV}(hg:P.globalNamed nm=some g)(hy:(P.globals[g]?).map (·.type)=some T)(ht:P.underlying T=some (.slice e))(he:P.underlying e=some .string)(hc:P.cellsOf e=1)(fj:L≠ [])(hL:∀s∈L,s.length≤140737488351232)
 (h:Lib.VarReads P W nm (.slice (L.map fun s=> .lit (.string s)) [])):∃u:cm,(DP g u.1).f (J.all W)∧(sl ff u.1 L).f (J.all W):=by
 obtain⟨g',t,cs,fuel,p,Qi,uZ,yU,hd⟩:=h;obtain rfl:=Option.some.inj (hg.symm.trans Qi);obtain rfl:=Option.some.inj (hy.symm.trans uZ);obtain⟨u,kp,hs⟩:=JG ht he hc fj hL hd;refine⟨u,?_,hs⟩
 have h0:=World.var?_cell hg yU 0
 rw[←Array.getElem?_toList,kp]at h0;obtain⟨_,C,e',fr,hb,hv⟩:=fm h0;exact⟨C,e',fr,hb,hv⟩
theorem FJ {nm:String}{g T e n:Nat}{L:List Nat}(hg:P.globalNamed nm=some g)(hy:(P.globals[g]?).map (·.type)=some T)(ht:P.underlying T=some (.array n e))(he:P.underlying e=some (.int .u8))(hc:P.cellsOf e=1)(hcT:P.cellsOf T=n)
 (h:Lib.VarReads P W nm (Lib.tabData .u8 (L.map fun x:Nat=>(x:Int)))):∀w:World,(∀k o,J.all W k=some o→w.heap[k]?=some o)→∀j,j<L.length→w.cell? ⟨g,j,none⟩=some (.int .u8 (L.getD j 0)):=by
 obtain⟨g',t,cs,fuel,p,Qi,uZ,yU,hd⟩:=h;obtain rfl:=Option.some.inj (hg.symm.trans Qi);obtain rfl:=Option.some.inj (hy.symm.trans uZ)
 have kp:=Lib.cells_of_tab ht he hc hcT hd
 intro w hw j hj
 have h0:=World.var?_cell hg yU j
 rw[←Array.getElem?_toList,kp]at h0
 have h0:W.cell? ⟨g,j,none⟩=some (.int .u8 (L.getD j 0)):=by
  rw[h0,List.getElem?_map,List.getElem?_map,List.getElem?_eq_getElem hj,List.getD_eq_getElem?_getD,List.getElem?_eq_getElem hj];rfl
 obtain⟨_,C,e',fr,hb,hv⟩:=fm h0
 rw[cW (hw _ _ hb)];exact hv
end
end Go.J
