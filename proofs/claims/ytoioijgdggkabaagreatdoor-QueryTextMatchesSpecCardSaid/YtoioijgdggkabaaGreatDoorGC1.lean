/-
  Laws of walks through programs, and facts on grammars, trees and queries.
  Conditions: none.
-/
import Derived.WalkKit
import Derived.Deep.Quiet
import Derived.Deep.LoopGhost
import Derived.Laws.StructEq
import Derived.ProofKit
import Derived.OpenShut
import Derived.JoinedCond
import Derived.Carry
import Derived.Deep.Slices
import Derived.SizedLaws
import Derived.Still
import Derived.MapKept
import Derived.Lib.LaidU8
import Derived.LaidMore
import Derived.Lay
import Derived.Stop.Joined
import Derived.Deep.DeepHandedRow
import Derived.Lib.Mul64
import Derived.Shelf.Spec.BitsCarry
import Derived.Laws.IdiomStrings
import Derived.Stop.IfaceNil
import Derived.Below
import Derived.Lib.ValidU
import Derived.Lib.RuneCount
import Derived.Lib.IndexAny
import Derived.Lib.TrimUEq
set_option linter.unusedVariables false
set_option linter.unusedSimpArgs false
namespace Go.J
open Go
abbrev Fr:=List (Nat×Value)
def look:Fr→Nat→Option Value
 | [],_=>none
 |(k,v)::F,t=>bif Nat.beq t k then some v else look F t
def vl (F:Fr):Operand→Option Value
 | .tmp t=>look F t
 | .const v=>some v
 | .func f=>some (.func (.func f) #[] #[])
 | .global g=>some (.pointer (some ⟨g,0,none⟩))
structure Has (n:Nat)(a:Act)(F:Fr):Prop where
 size:a.tmps.size=n
 defers:a.defers=[]
 slot:∀t v,look F t=some v→a.tmps[t]?=some v
theorem Has.eval {n:Nat}{a:Act}{F:Fr}{x:Operand}{v:Value}(h:Has n a F)(hx:vl F x=some v):a.eval x=v:=by
 cases x with
 |tmp t=>simp only[vl]at hx;simp[Act.eval,Array.getD_eq_getD_getElem?,h.slot _ _ hx]
 |const u=>simp only[vl,Option.some.injEq]at hx;exact hx
 |func f=>simp only[vl,Option.some.injEq]at hx;exact hx
 |global g=>simp only[vl,Option.some.injEq]at hx;exact hx
theorem Has.put {n:Nat}{a:Act}{F:Fr}(h:Has n a F){d:Nat}(hd:d<n)(v:Value):Has n (a.put (some d) v) ((d,v)::F):=by
 refine⟨by simp[Act.put,h.size],by simp[Act.put,h.defers],fun t u hu=> ?_⟩
 simp only[look]at hu
 cases hb:Nat.beq t d with
 |true=>
  have e:t=d:=Nat.eq_of_beq_eq_true hb
  subst e
  simp only[hb,cond_true,Option.some.injEq]at hu
  subst hu
  simp[Act.put,h.size,hd]
 |false=>
  have e:t≠d:=Nat.ne_of_beq_eq_false hb
  simp only[hb,cond_false]at hu
  simp[Act.put,Ne.symm e,h.slot _ _ hu]
theorem Has.Bi {n:Nat}{a:Act}{F:Fr}(h:Has n a F)(v:Value):Has n (a.put none v) F:=h
def Sub:Fr→Fr→Prop
 | [],_=>True
 |(k,v)::F',F=>look F k=some v∧Sub F' F
theorem Sub.look {F' F:Fr}(h:Sub F' F):∀t v,look F' t=some v→J.look F t=some v:=by
 induction F' with
 |nil=>intro t v hv;simp[J.look]at hv
 |cons p F' ih=>
  obtain⟨k,u⟩:=p;intro t v hv
  simp only[J.look]at hv
  cases hb:Nat.beq t k with
  |true=>
   have e:t=k:=Nat.eq_of_beq_eq_true hb
   subst e
   simp only[hb,cond_true,Option.some.injEq]at hv
   subst hv;exact h.1
  |false=>
   simp only[hb,cond_false]at hv
   exact ih h.2 t v hv
theorem Has.sub {n:Nat}{a:Act}{F F':Fr}(h:Has n a F)(hs:Sub F' F):Has n a F':=⟨h.size,h.defers,fun t v hv=>h.slot t v (hs.look t v hv)⟩
def St (n:Nat)(F:Fr)(A:World→Prop)(T:Act→World→Prop):Prop:=∀a w,Has n a F→A w→T a w
section
variable {P:Program}{n:Nat}{F:Fr}{A:World→Prop}{Q:Exit→Act→World→Prop}{ops:Array Oper}
theorem St.pg {A':World→Prop}{T:Act→World→Prop}(hA:∀w,A w→A' w)(h:St n F A' T):St n F A T:=
 fun a w ha hw=>h a w ha (hA w hw)
theorem St.and {p:Prop}{T:Act→World→Prop}(h:p→St n F A T):St n F (fun w=>p∧A w) T:=
 fun a w ha hw=>h hw.1 a w ha hw.2
theorem St.seq {x y:Code}(h:St n F A (x.wp P (Exit.then (y.wp P Q) Q))):St n F A ((Code.seq x y).wp P Q):=
 fun a w ha hw=>wp_seq (h a w ha hw)
theorem St.skip (h:St n F A (Q .normal)):St n F A (Code.skip.wp P Q):=fun a w ha hw=>wp_skip (h a w ha hw)
theorem St.ae (h:St n F A (Q .ret)):St n F A (Code.ret.wp P Q):=fun a w ha hw=>wp_ret (h a w ha hw)
theorem St.exit {id:Nat}(h:St n F A (Q (.exit id))):St n F A ((Code.exit id).wp P Q):=fun a w ha hw=>wp_exit (h a w ha hw)
theorem St.block {id:Nat}{c:Code}(h:St n F A (c.wp P (Exit.inBlock id Q))):St n F A ((Code.block id c).wp P Q):=
 fun a w ha hw=>wp_block (h a w ha hw)
theorem St.cond {c:Operand}{x y:Code}(t:Bool)(hc:vl F c=some (.bool t))(ht:t=true→St n F A (x.wp P Q))(hf:t=false→St n F A (y.wp P Q)):
 St n F A ((Code.cond c x y).wp P Q):=
 fun a w ha hw=>wp_cond_split (ha.eval hc) (fun h=>ht h a w ha hw) (fun h=>hf h a w ha hw)
theorem St.LY {c:Operand}{x y:Code}(t:Bool)(hc:vl F c=some (.bool t))(h:t=true)(ht:St n F A (x.wp P Q)):
 St n F A ((Code.cond c x y).wp P Q):=
 fun a w ha hw=>wp_cond_true (by rw[ha.eval hc,h]) (ht a w ha hw)
theorem St.ph {c:Operand}{x y:Code}(t:Bool)(hc:vl F c=some (.bool t))(h:t=false)(hf:St n F A (y.wp P Q)):
 St n F A ((Code.cond c x y).wp P Q):=
 fun a w ha hw=>wp_cond_false (by rw[ha.eval hc,h]) (hf a w ha hw)
theorem St.a7 {K:Act→World→Prop}(h:St n F A K):St n F A (Exit.then K Q .normal):=h
theorem St.aJ {K:Act→World→Prop}{id:Nat}(h:St n F A (Q (.exit id))):St n F A (Exit.then K Q (.exit id)):=h
theorem St.a8 {K:Act→World→Prop}(h:St n F A (Q .ret)):St n F A (Exit.then K Q .ret):=h
theorem St.aW {id:Nat}(h:St n F A (Q .normal)):St n F A (Exit.inBlock id Q .normal):=h
theorem St.aN {id:Nat}(h:St n F A (Q .ret)):St n F A (Exit.inBlock id Q .ret):=h
theorem St.bO {id:Nat}(h:St n F A (Q .normal)):St n F A (Exit.inBlock id Q (.exit id)):=by
 intro a w ha hw
 simp only[Exit.inBlock,if_true]
 exact h a w ha hw
theorem St.Fc {id RU:Nat}(er:Nat.beq RU id=false)(h:St n F A (Q (.exit RU))):St n F A (Exit.inBlock id Q (.exit RU)):=by
 intro a w ha hw
 simp only[Exit.inBlock,if_neg (Nat.ne_of_beq_eq_false er)]
 exact h a w ha hw
theorem St.loop {ι:Type _}{body:Code}(Fi:ι→Fr)(Ai:ι→World→Prop)(μ:ι→Nat)(fO:ι)(hF:Sub (Fi fO) F)(hA:∀w,A w→Ai fO w)
 (round:∀x,St n (Fi x) (Ai x) (body.wp P (Exit.then (fun a' w'=>∃y,μ y<μ x∧Has n a' (Fi y)∧Ai y w') Q))):
 St n F A ((Code.loop body).wp P Q):=by
 intro a w ha hw;refine wp_loop_ghost (fun k a w=>∃x,μ x=k∧Has n a (Fi x)∧Ai x w) (μ fO) ⟨fO,rfl,ha.sub hF,hA w hw⟩ ?_;rintro k a w ⟨x,rfl,hx,YC⟩;refine wp_mono (round x a w hx YC) ?_;intro e a' w' hq
 cases e with
 |normal=>obtain⟨y,h1,h2,h3⟩:=hq;exact⟨μ y,h1,y,rfl,h2,h3⟩
 |exit id=>exact hq
 |goto l=>exact hq
 |ret=>exact hq
 |panic ch=>exact hq
 |outgrown=>exact hq
theorem St.rg {id:Nat}{l:List Oper}(h:St n F A (wpList P l.toArray Q l)):St n F A ((Code.region id l.toArray false).wp P Q):=
 fun a w ha hw=>wp_region_lit (h a w ha hw)
theorem St.nil (h:St n F A (Q .normal)):St n F A (wpList P ops Q []):=h
abbrev bare (op : Op) (ty : TypeId) : Oper := { dst := none, op := op, type := ty, pos := "", after := #[], guard := none }
theorem eh (ρ:Operand→Value)(o:Oper):execOp ρ o=execOp ρ (bare o.op o.type):=by
 obtain⟨d,op,ty,p,af,g⟩:=o
 cases op<;>rfl
def Ev (P:Program)(n:Nat)(F:Fr)(A:World→Prop)(op:Op)(ty:TypeId)(v:Value):Prop:=
 ∀a w,Has n a F→A w→Oper.quietUpon P A w v ((execOp a.eval (bare op ty)).run P w)
theorem Ev.quietAt {op:Op}{ty:TypeId}{v:Value}(h:Ev P n F A op ty v){d:Option Tmp}{pos:String}{after:Array Edge}{g:Option (Nat×Bool)}{a:Act}{w:World}
 (ha:Has n a F) (hw:A w):({dst:=d,op:=op,type:=ty,pos:=pos,after:=after,guard:=g}:Oper).quietAt P a A w v:=by
 unfold Oper.quietAt;rw[eh];exact h a w ha hw
theorem Ev.wp {op:Op}{ty:TypeId}{v:Value}(h:Ev P n F A op ty v){d:Option Tmp}{pos:String}{after:Array Edge}{g:Option (Nat×Bool)}{a:Act}{w:World}
 (ha:Has n a F) (hw:A w) {K:Act→World→Prop} (hk:∀w',A w'→K (a.put d v) w'):
 ({dst:=d,op:=op,type:=ty,pos:=pos,after:=after,guard:=g}:Oper).wp P a w K Q:=by
 unfold Oper.wp Oper.upon;rw[eh]
 have hh:=h a w ha hw
 simp only at hh⊢
 generalize (execOp a.eval (bare op ty)).run P w=r at hh
 cases r with
 |ok nx w'=>
  cases nx<;>simp only[Oper.quietUpon]at hh<;>(try exact hh.elim)
  ·obtain⟨rfl,rfl⟩:=hh;exact hk _ hw
  ·obtain⟨rfl,rfl⟩:=hh;exact hk _ hw
  ·obtain⟨rfl,hc⟩:=hh
   exact hc.mono fun e Hz he=>by
    obtain⟨rfl,hA⟩:=he;exact hk _ hA
 |halt x w'=>simp only[Oper.quietUpon]at hh
theorem gK {o:Oper}{rest:List Oper}{a:Act}{w:World}(hg:o.guard=none)(h:o.wp P a w (wpList P ops Q rest) Q):wpList P ops Q (o::rest) a w:=by
 simp only[wpList,Region.wanted,hg,if_true]
 exact .inl h
theorem St.ev {d:Nat}{op:Op}{ty:TypeId}{pos:String}{after:Array Edge}{rest:List Oper}(v:Value)(jw:Ev P n F A op ty v)(hd:Nat.ble (d+1) n=true)
 (h:St n ((d,v)::F) A (wpList P ops Q rest)):
 St n F A (wpList P ops Q ({dst:=some d,op:=op,type:=ty,pos:=pos,after:=after,guard:=none}::rest)):=
 fun a w ha hw=>gK rfl (jw.wp ha hw fun w' ui=>h _ w' (ha.put (Nat.le_of_ble_eq_true hd) v) ui)
@[irreducible] def gv (c:Bool)(v:Value):Value:=bif c then v else undef
theorem c7 {c:Bool}(h:c=true)(v:Value):gv c v=v:=by unfold gv;simp[h]
theorem az {c:Bool}(h:c=false)(v:Value):gv c v=undef:=by unfold gv;simp[h]
def aL (F:Fr)(x:Operand)(v:Value):Prop:=∃u,vl F x=some u∧u=v
theorem aL.mk {x:Operand}{v:Value}(h:vl F x=some v):aL F x v:=⟨v,h,rfl⟩
theorem aL.gv {x:Operand}{v:Value}{c:Bool}(h:vl F x=some (gv c v))(hc:c=true):aL F x v:=⟨_,h,c7 hc v⟩
theorem aL.eval {x:Operand}{v:Value}(h:aL F x v){a:Act}(ha:Has n a F):a.eval x=v:=by
 obtain⟨u,h1,rfl⟩:=h;exact ha.eval h1
theorem ji {a b:Bool}(h:a=true)(k:b=true):(a&&b)=true:=by simp[h,k]
def JO:Value→Option Bool
 | .bool b=>some b
 |_=>none
theorem xD {l:Array Oper}{j dj:Nat}{u:Value}{tmps:Array Value}(hj:(l[j]?).bind (·.dst)=some dj)(h:tmps[dj]?=some u):
 yielded l tmps j=JO u:=by
 unfold yielded;rw[hj]
 simp only[Option.bind_some,h]
 cases u<;>rfl
theorem jj {l:Array Oper}{o:Oper}{j dj:Nat}{want c:Bool}{a:Act}{u:Value}(hg:o.guard=some (j,want))(hj:(l[j]?).bind (·.dst)=some dj)(h:a.tmps[dj]?=some u)
 (hu:(c=true→u= .bool want)∧(c=false→u= .bool (!want)∨u=undef)):Region.wanted o (yielded l a.tmps)=c:=by
 unfold Region.wanted;rw[hg]
 simp only[]
 rw[xD hj h]
 cases c with
 |true=>rw[hu.1 rfl];cases want<;>rfl
 |false=>
  rcases hu.2 rfl with h|h
  ·rw[h];cases want<;>rfl
  ·rw[h];cases want<;>rfl
theorem St.guarded {j:Nat}{want:Bool}{d:Nat}{op:Op}{ty:TypeId}{pos:String}{after:Array Edge}{rest:List Oper}(c:Bool){dj:Nat}{u:Value}(v:Value)
 (hj:(ops[j]?).bind (·.dst)=some dj) (hl:look F dj=some u) (hu:(c=true→u= .bool want)∧(c=false→u= .bool (!want)∨u=undef))
 (jw:c=true→Ev P n F A op ty v) (hd:Nat.ble (d+1) n=true) (h:St n ((d,gv c v)::F) A (wpList P ops Q rest)):
 St n F A (wpList P ops Q ({dst:=some d,op:=op,type:=ty,pos:=pos,after:=after,guard:=some (j,want)}::rest)):=by
 intro a w ha hw
 have jk:=Nat.le_of_ble_eq_true hd
 have nc:=jj (l:=ops) (o:={dst:=some d,op:=op,type:=ty,pos:=pos,after:=after,guard:=some (j,want)}) rfl hj (ha.slot _ _ hl) hu
 simp only[wpList,nc]
 cases hc:c with
 |true=>
  rw[hc]at h
  simp only[if_true]
  refine .inl ((jw hc).wp ha hw fun w' ui=> ?_)
  have:=h _ w' (ha.put jk (gv true v)) ui
  rwa[c7 rfl]at this
 |false=>
  rw[hc]at h
  have:=h _ w (ha.put jk (gv false v)) hw
  rw[az rfl]at this
  simpa using this
theorem JP (g:Bool):(g=true→Value.bool g= .bool true)∧(g=false→Value.bool g= .bool (!true)∨Value.bool g=undef):=by cases g<;>simp
theorem JQ (g:Bool):((!g)=true→Value.bool g= .bool false)∧((!g)=false→Value.bool g= .bool (!false)∨Value.bool g=undef):=by cases g<;>simp
theorem LZ (c g:Bool):((c&&g)=true→J.gv c (.bool g)= .bool true)∧((c&&g)=false→J.gv c (.bool g)= .bool (!true)∨J.gv c (.bool g)=undef):=by
 cases c<;>cases g<;>simp[gv]
theorem La (c g:Bool):((c&& !g)=true→J.gv c (.bool g)= .bool false)∧((c&& !g)=false→J.gv c (.bool g)= .bool (!false)∨J.gv c (.bool g)=undef):=by
 cases c<;>cases g<;>simp[gv]
section
variable {j:Nat}{d:Nat}{op:Op}{ty:TypeId}{pos:String}{after:Array Edge}{rest:List Oper}{dj:Nat}(v:Value)
theorem St.gt {g:Bool}(hj:(ops[j]?).bind (·.dst)=some dj)(hl:look F dj=some (.bool g))(jw:g=true→Ev P n F A op ty v)(hd:Nat.ble (d+1) n=true)
 (h:St n ((d,gv g v)::F) A (wpList P ops Q rest)):
 St n F A (wpList P ops Q ({dst:=some d,op:=op,type:=ty,pos:=pos,after:=after,guard:=some (j,true)}::rest)):=St.guarded g v hj hl (JP g) jw hd h
theorem St.gf {g:Bool}(hj:(ops[j]?).bind (·.dst)=some dj)(hl:look F dj=some (.bool g))(jw:(!g)=true→Ev P n F A op ty v)(hd:Nat.ble (d+1) n=true)
 (h:St n ((d,gv (!g) v)::F) A (wpList P ops Q rest)):
 St n F A (wpList P ops Q ({dst:=some d,op:=op,type:=ty,pos:=pos,after:=after,guard:=some (j,false)}::rest)):=St.guarded (!g) v hj hl (JQ g) jw hd h
theorem St.kW {c g:Bool}(hj:(ops[j]?).bind (·.dst)=some dj)(hl:look F dj=some (gv c (.bool g)))(jw:(c&&g)=true→Ev P n F A op ty v)(hd:Nat.ble (d+1) n=true)
 (h:St n ((d,gv (c&&g) v)::F) A (wpList P ops Q rest)):
 St n F A (wpList P ops Q ({dst:=some d,op:=op,type:=ty,pos:=pos,after:=after,guard:=some (j,true)}::rest)):=St.guarded (c&&g) v hj hl (LZ c g) jw hd h
theorem St.xE {c g:Bool}(hj:(ops[j]?).bind (·.dst)=some dj)(hl:look F dj=some (gv c (.bool g)))(jw:(c&& !g)=true→Ev P n F A op ty v)(hd:Nat.ble (d+1) n=true)
 (h:St n ((d,gv (c&& !g) v)::F) A (wpList P ops Q rest)):
 St n F A (wpList P ops Q ({dst:=some d,op:=op,type:=ty,pos:=pos,after:=after,guard:=some (j,false)}::rest)):=St.guarded (c&& !g) v hj hl (La c g) jw hd h
end
def Sq (n:Nat)(F:Fr)(T:Act→Prop):Prop:=∀a,Has n a F→T a
theorem Sq.nil (h:St n F A (Q .normal)):Sq n F (wpQuiet P ops A (fun a'=>∀w',A w'→Q .normal a' w') []):=fun a ha w hw=>h a w ha hw
theorem Sq.ev {d:Nat}{op:Op}{ty:TypeId}{pos:String}{after:Array Edge}{rest:List Oper}{T:Act→Prop}(v:Value)(jw:Ev P n F A op ty v)(hd:Nat.ble (d+1) n=true)
 (h:Sq n ((d,v)::F) (wpQuiet P ops A T rest)):
 Sq n F (wpQuiet P ops A T ({dst:=some d,op:=op,type:=ty,pos:=pos,after:=after,guard:=none}::rest)):=by
 intro a ha
 simp only[wpQuiet,Region.wanted,if_true]
 exact⟨v,fun w hw=>jw.quietAt ha hw,h _ (ha.put (Nat.le_of_ble_eq_true hd) v)⟩
theorem Sq.guarded {j:Nat}{want:Bool}{d:Nat}{op:Op}{ty:TypeId}{pos:String}{after:Array Edge}{rest:List Oper}{T:Act→Prop}(c:Bool){dj:Nat}{u:Value}(v:Value)
 (hj:(ops[j]?).bind (·.dst)=some dj) (hl:look F dj=some u) (hu:(c=true→u= .bool want)∧(c=false→u= .bool (!want)∨u=undef))
 (jw:c=true→Ev P n F A op ty v) (hd:Nat.ble (d+1) n=true) (h:Sq n ((d,gv c v)::F) (wpQuiet P ops A T rest)):
 Sq n F (wpQuiet P ops A T ({dst:=some d,op:=op,type:=ty,pos:=pos,after:=after,guard:=some (j,want)}::rest)):=by
 intro a ha
 have jk:=Nat.le_of_ble_eq_true hd
 have nc:=jj (l:=ops) (o:={dst:=some d,op:=op,type:=ty,pos:=pos,after:=after,guard:=some (j,want)}) rfl hj (ha.slot _ _ hl) hu
 simp only[wpQuiet,nc]
 cases hc:c with
 |true=>
  rw[hc]at h
  simp only[if_true]
  refine⟨v,fun w hw=>(jw hc).quietAt ha hw,?_⟩
  have:=h _ (ha.put jk (gv true v))
  rwa[c7 rfl]at this
 |false=>
  rw[hc]at h
  have:=h _ (ha.put jk (gv false v))
  rw[az rfl]at this
  simpa using this
section
variable {j:Nat}{d:Nat}{op:Op}{ty:TypeId}{pos:String}{after:Array Edge}{rest:List Oper}{dj:Nat}{T:Act→Prop}(v:Value)
theorem Sq.gt {g:Bool}(hj:(ops[j]?).bind (·.dst)=some dj)(hl:look F dj=some (.bool g))(jw:g=true→Ev P n F A op ty v)(hd:Nat.ble (d+1) n=true)
 (h:Sq n ((d,gv g v)::F) (wpQuiet P ops A T rest)):
 Sq n F (wpQuiet P ops A T ({dst:=some d,op:=op,type:=ty,pos:=pos,after:=after,guard:=some (j,true)}::rest)):=Sq.guarded g v hj hl (JP g) jw hd h
theorem Sq.gf {g:Bool}(hj:(ops[j]?).bind (·.dst)=some dj)(hl:look F dj=some (.bool g))(jw:(!g)=true→Ev P n F A op ty v)(hd:Nat.ble (d+1) n=true)
 (h:Sq n ((d,gv (!g) v)::F) (wpQuiet P ops A T rest)):
 Sq n F (wpQuiet P ops A T ({dst:=some d,op:=op,type:=ty,pos:=pos,after:=after,guard:=some (j,false)}::rest)):=Sq.guarded (!g) v hj hl (JQ g) jw hd h
end
def Bj (A:World→Prop):Prop:=∀w,A w→A {w with drawn:=w.drawn+1}
theorem St.rq {id:Nat}{l:List Oper}(hm:P.follows .mixedOrders=true)(hB:Region.lexB .any l.toArray=true)(hA:Bj A)
 (h:Sq n F (wpQuiet P l.toArray A (fun a'=>∀w',A w'→Q .normal a' w') l)):St n F A ((Code.region id l.toArray true).wp P Q):=
 fun a w ha hw=>wp_region_quiet hm hB (hA w hw) (by simpa using h a ha)
end
abbrev Ro:=Nat→Option Obj
def Ro.le (ρ gS:Ro):Prop:=∀k o,ρ k=some o→gS k=some o
theorem Ro.le_refl (ρ:Ro):ρ.le ρ:=fun _ _ h=>h
theorem Ro.le_trans {a b c:Ro}(h:a.le b)(k:b.le c):a.le c:=fun _ _ x=>k _ _ (h _ _ x)
structure dJ where
 f:Ro→Prop
 mono:∀ρ gS,Ro.le ρ gS→f ρ→f gS
structure bE where
 key:Option Nat
 ok:Ro→World→Prop
 loc:∀{ρ gS w w'},Ro.le ρ gS→(∀b,key=some b→w'.heap[b]?=w.heap[b]?)→ok ρ w→ok gS w'
 lt:∀{ρ w b},ok ρ w→key=some b→b<w.heap.size
@[irreducible] def aE (d:dJ):bE:=⟨none,fun ρ _=>d.f ρ,fun h _ k=>d.mono _ _ h k,fun _ h=>by simp at h⟩
@[irreducible] def aZ (b:Nat)(o:Obj):bE:=⟨some b,fun _ w=>w.heap[b]?=some o,fun _ h k=>by rw[h b rfl];exact k,fun h hb=>by
 simp only[Option.some.injEq]at hb
 subst hb
 exact(Array.getElem?_eq_some_iff.1 h).1⟩
theorem uj {w w':World}{e:TypeId}{size n:Nat}{v:Value}{cs:List Value}(h:∀b,v.ownBlock=some b→w'.heap[b]?=w.heap[b]?)(k:w.ownsRow 0 e size v n cs):w'.ownsRow 0 e size v n cs:=by
 obtain⟨h1,h2⟩:=k;refine⟨h1,?_⟩
 rcases h2 with h2|⟨g,cap,cur,rfl,h3,h4,h5⟩
 ·exact .inl h2
 ·exact .inr ⟨g,cap,cur,rfl,h3,by rw[h g rfl];exact h4,h5⟩
@[irreducible] def row (v:Value)(e:TypeId)(size n:Nat)(cs:List Value):bE:=⟨v.ownBlock,fun _ w=>w.ownsRow 0 e size v n cs,fun _ h k=>uj h k,fun h hb=>(h.lt _ hb).2⟩
theorem jx (d:dJ):(aE d).key=none:=by unfold aE;rfl
theorem cw {d:dJ}{ρ:Ro}{w:World}:(aE d).ok ρ w↔d.f ρ:=by unfold aE;exact Iff.rfl
theorem gT (b:Nat)(o:Obj):(aZ b o).key=some b:=by unfold aZ;rfl
theorem eK {b:Nat}{o:Obj}{ρ:Ro}{w:World}:(aZ b o).ok ρ w↔w.heap[b]?=some o:=by unfold aZ;exact Iff.rfl
theorem eL (v:Value)(e:TypeId)(size n:Nat)(cs:List Value):(row v e size n cs).key=v.ownBlock:=by unfold row;rfl
theorem e6 {v:Value}{e:TypeId}{size n:Nat}{cs:List Value}{ρ:Ro}{w:World}:(row v e size n cs).ok ρ w↔w.ownsRow 0 e size v n cs:=by unfold row;exact Iff.rfl
def zB (E E':bE):Prop:=∀b,E.key=some b→E'.key≠some b
theorem zB.symm {E E':bE}(h:zB E E'):zB E' E:=fun b h1 h2=>h b h2 h1
def jB (H:List bE)(b:Nat):Prop:=∃E∈H,E.key=some b
structure Ctx where
 w:World
 ρ:Ro
 M:Nat→Prop
 dr:Prop
structure dt (c:Ctx)(H:List bE)(ρ:Ro)(w:World):Prop where
 os:w.os=c.w.os
 tape:w.tape=c.w.tape∧(c.dr→c.w.drawn≤w.drawn)
 output:w.output=c.w.output
 size:c.w.heap.size≤w.heap.size
 wi:∀k,k<c.w.heap.size→¬c.M k→w.heap[k]?=c.w.heap[k]?
 fits:∀k o,ρ k=some o→w.heap[k]?=some o
 le:Ro.le c.ρ ρ
 new:∀k,k<c.w.heap.size→¬c.M k→ρ k=c.ρ k
 ct:∀E∈H,E.ok ρ w
 own:∀E∈H,∀b,E.key=some b→ρ b=none∧(c.w.heap.size≤b∨c.M b)
 A7:H.Pairwise zB
@[irreducible] def Mm (c:Ctx)(H:List bE)(w:World):Prop:=∃ρ,dt c H ρ w
theorem Mm.out {c:Ctx}{H:List bE}{w:World}(h:Mm c H w):∃ρ,dt c H ρ w:=by unfold Mm at h;exact h
theorem Mm.mk {c:Ctx}{H:List bE}{w:World}{ρ:Ro}(h:dt c H ρ w):Mm c H w:=by unfold Mm;exact⟨ρ,h⟩
theorem dt.lt {c:Ctx}{H:List bE}{ρ:Ro}{w:World}(h:dt c H ρ w){E:bE}(hE:E∈H){b:Nat}(hb:E.key=some b):b<w.heap.size:=E.lt (h.ct E hE) hb
theorem dt.I0 {c:Ctx}{H:List bE}{ρ:Ro}{w:World}(h:dt c H ρ w){b:Nat}{o:Obj}(hb:ρ b=some o):b<w.heap.size:=(Array.getElem?_eq_some_iff.1 (h.fits b o hb)).1
theorem dt.step {c:Ctx}{H1 H2 R:List bE}{ρ gS:Ro}{w w':World}(h:dt c (H1++R) ρ w)(k:dt ⟨w,ρ,jB H1,c.dr⟩ H2 gS w'):dt c (H2++R) gS w':=by
 have hd:=List.pairwise_append.1 h.A7
 have mJ:∀E∈R,∀b,E.key=some b→w'.heap[b]?=w.heap[b]?:=by
  intro E hE b hb;refine k.wi b (h.lt (List.mem_append_right _ hE) hb) ?_;rintro ⟨E',wj,jC⟩;exact hd.2.2 E' wj E hE b jC hb
 refine⟨k.os.trans h.os,⟨k.tape.1.trans h.tape.1,fun d=>Nat.le_trans (h.tape.2 d) (k.tape.2 d)⟩,k.output.trans h.output,Nat.le_trans h.size k.size,?_,k.fits,Ro.le_trans h.le k.le,?_,?_,?_,?_⟩
 ·intro i hi hm
  rw[←h.wi i hi hm];refine k.wi i (Nat.lt_of_lt_of_le hi h.size) ?_;rintro ⟨E,hE,hb⟩
  rcases(h.own E (List.mem_append_left _ hE) i hb).2 with h2|h2
  ·omega
  ·exact hm h2
 ·intro i hi hm
  rw[←h.new i hi hm];refine k.new i (Nat.lt_of_lt_of_le hi h.size) ?_;rintro ⟨E,hE,hb⟩
  rcases(h.own E (List.mem_append_left _ hE) i hb).2 with h2|h2
  ·omega
  ·exact hm h2
 ·intro E hE
  rcases List.mem_append.1 hE with hE|hE
  ·exact k.ct E hE
  ·exact E.loc k.le (mJ E hE) (h.ct E (List.mem_append_right _ hE))
 ·intro E hE b hb
  rcases List.mem_append.1 hE with hE|hE
  ·refine⟨(k.own E hE b hb).1,?_⟩
   rcases(k.own E hE b hb).2 with h2|⟨E',wj,h2⟩
   ·exact .inl (Nat.le_trans h.size h2)
   ·exact(h.own E' (List.mem_append_left _ wj) b h2).2
  ·have h1:=h.own E (List.mem_append_right _ hE) b hb
   refine⟨?_,h1.2⟩;rw[k.new b (h.lt (List.mem_append_right _ hE) hb)]
   ·exact h1.1
   ·rintro ⟨E',wj,jC⟩
    exact hd.2.2 E' wj E hE b jC hb
 ·refine List.pairwise_append.2 ⟨k.A7,hd.2.1,?_⟩
  intro E hE E' wj b hb jC
  rcases(k.own E hE b hb).2 with h2|⟨RX,xF,h2⟩
  ·have:=h.lt (List.mem_append_right _ wj) jC
   exact absurd this (by simpa using h2)
  ·exact hd.2.2 RX xF E' wj b h2 jC
theorem dt.perm {c:Ctx}{H H':List bE}{ρ:Ro}{w:World}(h:dt c H ρ w)(hp:H.Perm H'):dt c H' ρ w:=
 ⟨h.os,h.tape,h.output,h.size,h.wi,h.fits,h.le,h.new,fun E hE=>h.ct E (hp.mem_iff.2 hE),fun E hE=>h.own E (hp.mem_iff.2 hE),
  (hp.pairwise_iff fun h=>h.symm).1 h.A7⟩
theorem dt.drop {c:Ctx}{E:bE}{H:List bE}{ρ:Ro}{w:World}(h:dt c (E::H) ρ w):dt c H ρ w:=
 ⟨h.os,h.tape,h.output,h.size,h.wi,h.fits,h.le,h.new,fun E hE=>h.ct E (List.mem_cons_of_mem _ hE),fun E hE=>h.own E (List.mem_cons_of_mem _ hE),(List.pairwise_cons.1 h.A7).2⟩
theorem dt.fact {c:Ctx}{H:List bE}{ρ:Ro}{w:World}(h:dt c H ρ w)(d:dJ)(hd:d.f ρ):dt c (aE d::H) ρ w:=
 ⟨h.os,h.tape,h.output,h.size,h.wi,h.fits,h.le,h.new,fun E hE=>by
  rcases List.mem_cons.1 hE with rfl|hE
  ·exact cw.2 hd
  ·exact h.ct E hE,
  fun E hE b hb=>by
   rcases List.mem_cons.1 hE with rfl|hE
   ·rw[jx]at hb;cases hb
   ·exact h.own E hE b hb,
  List.pairwise_cons.2 ⟨fun E _ b hb=>(by rw[jx]at hb;cases hb),h.A7⟩⟩
theorem dt.drawn {c:Ctx}{H:List bE}{ρ:Ro}{w:World}(h:dt c H ρ w):dt c H ρ {w with drawn:=w.drawn+1}:=
 ⟨h.os,⟨h.tape.1,fun d=>Nat.le_succ_of_le (h.tape.2 d)⟩,h.output,h.size,h.wi,h.fits,h.le,h.new,fun E hE=>E.loc (w:=w) (Ro.le_refl _) (fun _ _=>rfl) (h.ct E hE),h.own,h.A7⟩
theorem Mm.drawn (c:Ctx)(H:List bE):Bj (Mm c H):=fun _ h=>let⟨_,k⟩:=h.out;Mm.mk k.drawn
def Start (H:List bE)(ρ:Ro)(w:World):Prop:=dt ⟨w,ρ,jB H,True⟩ H ρ w
theorem dt.start {c:Ctx}{H R:List bE}{ρ:Ro}{w:World}(h:dt c (H++R) ρ w):Start H ρ w:=
 ⟨rfl,⟨rfl,fun _=>Nat.le_refl _⟩,rfl,Nat.le_refl _,fun _ _ _=>rfl,h.fits,Ro.le_refl _,fun _ _ _=>rfl,fun E hE=>h.ct E (List.mem_append_left _ hE),
  fun E hE b hb=>⟨(h.own E (List.mem_append_left _ hE) b hb).1,.inr ⟨E,hE,hb⟩⟩,(List.pairwise_append.1 h.A7).1⟩
def eI (P:Program)(f:FuncId)(args:Array Value)(pre:List bE)(post:Value→List bE→Prop):Prop:=
 ∀w ρ,Start pre ρ w→Calls P f args w fun e w'=>∃v H',e= .returned v∧post v H'∧Mm ⟨w,ρ,jB pre,True⟩ H' w'
def A8 (dr:Prop)(P:Program)(f:FuncId)(args:Array Value)(pre:List bE)(post:Value→List bE→Prop):Prop:=
 ∀w ρ,Start pre ρ w→Calls P f args w fun e w'=>∃v H',e= .returned v∧post v H'∧Mm ⟨w,ρ,jB pre,dr⟩ H' w'
theorem dt.dr {w0:World}{Lb:Ro}{M:Nat→Prop}{d d':Prop}{H:List bE}{ρ:Ro}{w:World}(h:dt ⟨w0,Lb,M,d⟩ H ρ w)(hd:d'→d):dt ⟨w0,Lb,M,d'⟩ H ρ w:=
 ⟨h.os,⟨h.tape.1,fun q=>h.tape.2 (hd q)⟩,h.output,h.size,h.wi,h.fits,h.le,h.new,h.ct,h.own,h.A7⟩
theorem Mm.dr {w0:World}{Lb:Ro}{M:Nat→Prop}{d d':Prop}{H:List bE}{w:World}(h:Mm ⟨w0,Lb,M,d⟩ H w)(hd:d'→d):Mm ⟨w0,Lb,M,d'⟩ H w:=let⟨_,k⟩:=h.out;Mm.mk (k.dr hd)
theorem eI.gen {P:Program}{f:FuncId}{args:Array Value}{pre:List bE}{post:Value→List bE→Prop}(h:eI P f args pre post):A8 True P f args pre post:=h
theorem A8.dr {d d':Prop}{P:Program}{f:FuncId}{args:Array Value}{pre:List bE}{post:Value→List bE→Prop}(h:A8 d P f args pre post)(hd:d'→d):A8 d' P f args pre post:=
 fun w ρ hs=>(h w ρ hs).mono fun _ _ ⟨v,H',h1,h2,h3⟩=>⟨v,H',h1,h2,h3.dr hd⟩
theorem A8.mono {d:Prop}{P:Program}{f:FuncId}{args:Array Value}{pre:List bE}{post uk:Value→List bE→Prop}(h:A8 d P f args pre post)(hp:∀v H,post v H→uk v H):A8 d P f args pre uk:=
 fun w ρ hs=>(h w ρ hs).mono fun _ _ ⟨v,H',h1,h2,h3⟩=>⟨v,H',h1,hp v H' h2,h3⟩
abbrev um:=A8 False
def fG (P:Program)(f:FuncId)(args:Array Value)(ds:List dJ)(v:Value):Prop:=um P f args (ds.map aE) fun u _=>u=v
def de (P:Program)(f:FuncId)(args:Array Value)(ds:List dJ)(v:Value):Prop:=eI P f args (ds.map aE) fun u _=>u=v
theorem eI.mono {P:Program}{f:FuncId}{args:Array Value}{pre:List bE}{post uk:Value→List bE→Prop}(h:eI P f args pre post)(hp:∀v H,post v H→uk v H):eI P f args pre uk:=
 fun w ρ hs=>(h w ρ hs).mono fun _ _ ⟨v,H',h1,h2,h3⟩=>⟨v,H',h1,hp v H' h2,h3⟩
theorem dt.uo {c:Ctx}{H:List bE}{ρ:Ro}{w:World}(h:dt c H ρ w):∀ds:List dJ,(∀d∈ds,d.f ρ)→dt c (ds.map aE++H) ρ w
 | [],_=>h
 |d::ds,hd=>(h.uo ds fun d' h'=>hd d' (List.mem_cons_of_mem _ h')).fact d (hd d (List.mem_cons_self ..))
section classes
class iE (d:dJ)(H:List bE):Prop where
 mem:aE d∈H
instance (priority:=high) iE.here (d:dJ)(H:List bE):iE d (aE d::H):=⟨List.mem_cons_self ..⟩
instance iE.there (d:dJ)(E:bE)(H:List bE)[h:iE d H]:iE d (E::H):=⟨List.mem_cons_of_mem _ h.mem⟩
class mK (ds:List dJ)(H:List bE):Prop where
 mem:∀d∈ds,aE d∈H
instance mK.nil (H:List bE):mK [] H:=⟨fun _ h=>by simp at h⟩
instance mK.cons (d:dJ)(ds:List dJ)(H:List bE)[h:iE d H][k:mK ds H]:mK (d::ds) H:=
 ⟨fun d' h'=>by rcases List.mem_cons.1 h' with rfl|h';exact h.mem;exact k.mem d' h'⟩
class c4 (b:Nat)(H:List bE)(o:outParam Obj):Prop where
 mem:aZ b o∈H
instance (priority:=high) c4.here (b:Nat)(o:Obj)(H:List bE):c4 b (aZ b o::H) o:=⟨List.mem_cons_self ..⟩
instance c4.there (b:Nat)(o:Obj)(E:bE)(H:List bE)[h:c4 b H o]:c4 b (E::H) o:=⟨List.mem_cons_of_mem _ h.mem⟩
class kL (b:Nat)(H:List bE)(o:outParam Obj)(R:outParam (List bE)):Prop where
 perm:H.Perm (aZ b o::R)
instance (priority:=high) kL.here (b:Nat)(o:Obj)(H:List bE):kL b (aZ b o::H) o H:=⟨.refl _⟩
instance kL.there (b:Nat)(o:Obj)(E:bE)(H R:List bE)[h:kL b H o R]:kL b (E::H) o (E::R):=⟨(h.perm.cons E).trans (.swap ..)⟩
class jH (v:Value)(H:List bE)(e:outParam TypeId)(size n:outParam Nat)(cs:outParam (List Value))(R:outParam (List bE)):Prop where
 perm:H.Perm (row v e size n cs::R)
instance (priority:=high) jH.here (v:Value)(e:TypeId)(size n:Nat)(cs:List Value)(H:List bE):jH v (row v e size n cs::H) e size n cs H:=⟨.refl _⟩
instance jH.there (v:Value)(e:TypeId)(size n:Nat)(cs:List Value)(E:bE)(H R:List bE)[h:jH v H e size n cs R]:jH v (E::H) e size n cs (E::R):=⟨(h.perm.cons E).trans (.swap ..)⟩
class rj (E:bE)(H:List bE)(R:outParam (List bE)):Prop where
 perm:H.Perm (E::R)
instance (priority:=high) rj.here (E:bE)(H:List bE):rj E (E::H) H:=⟨.refl _⟩
instance rj.there (E E':bE)(H R:List bE)[h:rj E H R]:rj E (E'::H) (E'::R):=⟨(h.perm.cons E').trans (.swap ..)⟩
class hR (L H:List bE)(R:outParam (List bE)):Prop where
 perm:H.Perm (L++R)
instance hR.nil (H:List bE):hR [] H H:=⟨.refl _⟩
instance hR.cons (E:bE)(L H R R':List bE)[h:rj E H R][k:hR L R R']:hR (E::L) H R':=⟨h.perm.trans (k.perm.cons E)⟩
end classes
theorem Mm.take {c:Ctx}{L H R:List bE}{w:World}[t:hR L H R](h:Mm c H w):Mm c (L++R) w:=let⟨_,k⟩:=h.out;Mm.mk (k.perm t.perm)
theorem dt.left {c:Ctx}{L R:List bE}{ρ:Ro}{w:World}(h:dt c (L++R) ρ w):dt c L ρ w:=by
 induction R generalizing L with
 |nil=>simpa using h
 |cons E R ih=>exact ih (h.perm List.perm_middle).drop
theorem Mm.sub {c:Ctx}{L H R:List bE}{w:World}[t:hR L H R](h:Mm c H w):Mm c L w:=let⟨_,k⟩:=h.out;Mm.mk (k.perm t.perm).left
theorem Mm.fact {c:Ctx}{H:List bE}{w:World}(h:Mm c H w)(d:dJ)(hd:∀ρ,dt c H ρ w→d.f ρ):Mm c (aE d::H) w:=let⟨_,k⟩:=h.out;Mm.mk (k.fact d (hd _ k))
section
variable {P:Program}{n:Nat}{F:Fr}{c:Ctx}{H R:List bE}{Q:Exit→Act→World→Prop}{ops:Array Oper}{T:Act→World→Prop}
theorem St.fact (d:dJ)(hd:∀ρ w,dt c H ρ w→d.f ρ)(h:St n F (Mm c (aE d::H)) T):St n F (Mm c H) T:=
 h.pg fun _ hw=>hw.fact d fun ρ k=>hd ρ _ k
theorem St.sub (L:List bE)[t:hR L H R](h:St n F (Mm c L) T):St n F (Mm c H) T:=h.pg fun _ hw=>hw.sub
theorem St.take (L:List bE)[t:hR L H R](h:St n F (Mm c (L++R)) T):St n F (Mm c H) T:=h.pg fun _ hw=>hw.take
theorem St.aC (h:St n F (Mm c R) T):St n F (Mm c ([]++R)) T:=h
theorem St.aq {a:bE}(h:St n F (Mm c (a::R)) T):St n F (Mm c ([a]++R)) T:=h
theorem St.cI {a b:bE}(h:St n F (Mm c (a::b::R)) T):St n F (Mm c ([a,b]++R)) T:=h
theorem St.iG {a b d:bE}(h:St n F (Mm c (a::b::d::R)) T):St n F (Mm c ([a,b,d]++R)) T:=h
theorem St.JR {a b d e:bE}(h:St n F (Mm c (a::b::d::e::R)) T):St n F (Mm c ([a,b,d,e]++R)) T:=h
def Do (P:Program)(n:Nat)(F:Fr)(c:Ctx)(H:List bE)(op:Op)(ty:TypeId)(K:Value→List bE→Prop):Prop:=
 ∀a w ρ,Has n a F→dt c H ρ w→∃v w' gS H',(execOp a.eval (bare op ty)).run P w= .ok v w'∧(∃u,(v= .value u∨(v= .skip∧u=undef))∧K u H')∧dt c H' gS w'
theorem Do.wp {op:Op}{ty:TypeId}{K:Value→List bE→Prop}(h:Do P n F c H op ty K){d:Option Tmp}{pos:String}{after:Array Edge}{g:Option (Nat×Bool)}{a:Act}{w:World}
 (ha:Has n a F) (hw:Mm c H w) {J:Act→World→Prop} (hk:∀u H' w',K u H'→Mm c H' w'→J (a.put d u) w'):
 ({dst:=d,op:=op,type:=ty,pos:=pos,after:=after,guard:=g}:Oper).wp P a w J Q:=by
 obtain⟨ρ,hm⟩:=hw.out;obtain⟨v,w',gS,H',hr,⟨u,hv,hK⟩,iT⟩:=h a w ρ ha hm;unfold Oper.wp Oper.upon;rw[eh]
 simp only at hr⊢
 rw[hr]
 rcases hv with rfl|⟨rfl,rfl⟩
 ·exact hk _ _ _ hK (Mm.mk iT)
 ·exact hk _ _ _ hK (Mm.mk iT)
theorem St.I1 {d:Nat}{op:Op}{ty:TypeId}{pos:String}{after:Array Edge}{rest:List Oper}{K:Value→List bE→Prop}(jw:Do P n F c H op ty K)(hd:Nat.ble (d+1) n=true)
 (h:∀v H',K v H'→St n ((d,v)::F) (Mm c H') (wpList P ops Q rest)):
 St n F (Mm c H) (wpList P ops Q ({dst:=some d,op:=op,type:=ty,pos:=pos,after:=after,guard:=none}::rest)):=
 fun _ _ ha hw=>gK rfl (jw.wp ha hw fun u H' w' hK ui=>h u H' hK _ w' (ha.put (Nat.le_of_ble_eq_true hd) u) ui)
theorem St.lT {op:Op}{ty:TypeId}{pos:String}{after:Array Edge}{rest:List Oper}{K:Value→List bE→Prop}(jw:Do P n F c H op ty K)
 (h:∀v H',K v H'→St n F (Mm c H') (wpList P ops Q rest)):
 St n F (Mm c H) (wpList P ops Q ({dst:=none,op:=op,type:=ty,pos:=pos,after:=after,guard:=none}::rest)):=
 fun _ _ ha hw=>gK rfl (jw.wp ha hw fun u H' w' hK ui=>h u H' hK _ w' (ha.Bi u) ui)
end
def nd:Nat→List Value→Fr
 |_,[]=>[]
 |k,v::vs=>(k,v)::nd (k+1) vs
theorem ng {t:Nat}{v:Value}:∀(l:List Value) (i:Nat),look (nd i l) t=some v→i≤t∧l[t-i]?=some v
 | [],i,h=>by simp[nd,look]at h
 |x::l,i,h=>by
  simp only[nd,look]at h
  cases hb:Nat.beq t i with
  |true=>
   have e:t=i:=Nat.eq_of_beq_eq_true hb
   subst e
   simp only[hb,cond_true,Option.some.injEq]at h
   subst h
   simp
  |false=>
   have e:t≠i:=Nat.ne_of_beq_eq_false hb
   simp only[hb,cond_false]at h
   obtain⟨h1,h2⟩:=ng l (i+1) h;refine⟨by omega,?_⟩
   have:t-i=(t-(i+1))+1:=by omega
   rw[this,List.getElem?_cons_succ];exact h2
theorem eI.body {P:Program}{f:FuncId}{fn:Func}{cd:Code}{args:List Value}{pre:List bE}{post:Value→List bE→Prop}(n:Nat)
 (hf:P.funcs[f]?=some fn) (hb:fn.body=some cd) (hn:fn.ntmps=n) (gW:Nat.ble args.length n=true)
 (h:∀c:Ctx,St n (nd 0 args) (Mm c pre) (cd.wp P (bodyPost P fn fun e w'=>∃v H',e= .returned v∧post v H'∧Mm c H' w'))):
 eI P f args.toArray pre post:=by
 intro w ρ hs;refine calls_of_wp hf hb (h ⟨w,ρ,jB pre,True⟩ _ w ⟨?_,rfl,?_⟩ (Mm.mk hs))
 ·have:=Nat.le_of_ble_eq_true gW
  simp[hn]
  omega
 ·intro t v ht
  obtain⟨_,h2⟩:=ng args 0 ht
  simp only[Nat.sub_zero]at h2
  have iU:t<args.length:=(List.getElem?_eq_some_iff.1 h2).1
  simp only[List.size_toArray,Array.getElem?_append,iU,if_true]
  simpa using h2
theorem um.body {P:Program}{f:FuncId}{fn:Func}{cd:Code}{args:List Value}{pre:List bE}{post:Value→List bE→Prop}(n:Nat)
 (hf:P.funcs[f]?=some fn) (hb:fn.body=some cd) (hn:fn.ntmps=n) (gW:Nat.ble args.length n=true)
 (h:∀c:Ctx,¬c.dr→St n (nd 0 args) (Mm c pre) (cd.wp P (bodyPost P fn fun e w'=>∃v H',e= .returned v∧post v H'∧Mm c H' w'))):
 um P f args.toArray pre post:=by
 intro w ρ hs;refine calls_of_wp hf hb (h ⟨w,ρ,jB pre,False⟩ (fun h=>h) _ w ⟨?_,rfl,?_⟩ (Mm.mk (hs.dr fun h=>h.elim)))
 ·have:=Nat.le_of_ble_eq_true gW
  simp[hn]
  omega
 ·intro t v ht
  obtain⟨_,h2⟩:=ng args 0 ht
  simp only[Nat.sub_zero]at h2
  have iU:t<args.length:=(List.getElem?_eq_some_iff.1 h2).1
  simp only[List.size_toArray,Array.getElem?_append,iU,if_true]
  simpa using h2
theorem fG.body {P:Program}{f:FuncId}{fn:Func}{cd:Code}{args:List Value}{u:Value}{ds:List dJ}(n:Nat)
 (hf:P.funcs[f]?=some fn) (hb:fn.body=some cd) (hn:fn.ntmps=n) (gW:Nat.ble args.length n=true)
 (h:∀c:Ctx,¬c.dr→St n (nd 0 args) (Mm c (ds.map aE)) (cd.wp P (bodyPost P fn fun e w'=>∃v H',e= .returned v∧v=u∧Mm c H' w'))):fG P f args.toArray ds u:=um.body n hf hb hn gW h
theorem de.iZ {P:Program}{f:FuncId}{fn:Func}{cd:Code}{args:List Value}{u:Value}(n:Nat)
 (hf:P.funcs[f]?=some fn) (hb:fn.body=some cd) (hn:fn.ntmps=n) (gW:Nat.ble args.length n=true)
 (h:∀c:Ctx,St n (nd 0 args) (Mm c []) (cd.wp P (bodyPost P fn fun e w'=>∃v H',e= .returned v∧v=u∧Mm c H' w'))):de P f args.toArray [] u:=eI.body n hf hb hn gW h
theorem de.mf {P:Program}{f:FuncId}{fn:Func}{cd:Code}{args:List Value}{u:Value}{d1:dJ}(n:Nat)
 (hf:P.funcs[f]?=some fn) (hb:fn.body=some cd) (hn:fn.ntmps=n) (gW:Nat.ble args.length n=true)
 (h:∀c:Ctx,St n (nd 0 args) (Mm c [aE d1]) (cd.wp P (bodyPost P fn fun e w'=>∃v H',e= .returned v∧v=u∧Mm c H' w'))):de P f args.toArray [d1] u:=eI.body n hf hb hn gW h
theorem de.zC {P:Program}{f:FuncId}{fn:Func}{cd:Code}{args:List Value}{u:Value}{d1 d2:dJ}(n:Nat)
 (hf:P.funcs[f]?=some fn) (hb:fn.body=some cd) (hn:fn.ntmps=n) (gW:Nat.ble args.length n=true)
 (h:∀c:Ctx,St n (nd 0 args) (Mm c [aE d1,aE d2]) (cd.wp P (bodyPost P fn fun e w'=>∃v H',e= .returned v∧v=u∧Mm c H' w'))):de P f args.toArray [d1,d2] u:=eI.body n hf hb hn gW h
theorem de.Lc {P:Program}{f:FuncId}{fn:Func}{cd:Code}{args:List Value}{u:Value}{d1 d2 d3:dJ}(n:Nat)
 (hf:P.funcs[f]?=some fn) (hb:fn.body=some cd) (hn:fn.ntmps=n) (gW:Nat.ble args.length n=true)
 (h:∀c:Ctx,St n (nd 0 args) (Mm c [aE d1,aE d2,aE d3]) (cd.wp P (bodyPost P fn fun e w'=>∃v H',e= .returned v∧v=u∧Mm c H' w'))):de P f args.toArray [d1,d2,d3] u:=eI.body n hf hb hn gW h
theorem de.Ld {P:Program}{f:FuncId}{fn:Func}{cd:Code}{args:List Value}{u:Value}{d1 d2 d3 d4:dJ}(n:Nat)
 (hf:P.funcs[f]?=some fn) (hb:fn.body=some cd) (hn:fn.ntmps=n) (gW:Nat.ble args.length n=true)
 (h:∀c:Ctx,St n (nd 0 args) (Mm c [aE d1,aE d2,aE d3,aE d4]) (cd.wp P (bodyPost P fn fun e w'=>∃v H',e= .returned v∧v=u∧Mm c H' w'))):de P f args.toArray [d1,d2,d3,d4] u:=eI.body n hf hb hn gW h
theorem Sub.nil {F:Fr}:Sub [] F:=trivial
theorem Sub.cons {F F':Fr}{k:Nat}{v:Value}(h:J.look F k=some v)(h':Sub F' F):Sub ((k,v)::F') F:=⟨h,h'⟩
def RV (P:Program)(F:Fr)(H:List bE):ResultVar→Value→Prop
 | .tmp t,v=>look F t=some v
 | .cell t ty,v=>∃b C e fr,look F t=some (.pointer (some ⟨b,0,none⟩))∧aZ b (.cells C e fr)∈H∧
  ((∃fs,P.underlying ty=some (.struct fs))∧(P.info? ty).map (·.size)=some C.size∧v= .agg C∨
   (match P.underlying ty with|some (.struct _)|some (.array _ _)|none=>False|some _=>True)∧C[0]?=some v)
theorem bp {w:World}{b off:Nat}{C:Array Value}{e:TypeId}{fr:Nat×Nat}(h:w.heap[b]?=some (.cells C e fr)):w.cell? ⟨b,off,none⟩=C[off]?:=by
 simp[World.cell?,h]
theorem fZ {P:Program}{w:World}{ty:TypeId}{b off:Nat}{L:List Value}{d:TypeDesc}(hd:P.underlying ty=some d)(hk:(match d with| .struct _| .array _ _=>True|_=>False))
 (hs:(P.info? ty).map (·.size)=some L.length) (hL:∀j v,L[j]?=some v→w.cell? ⟨b,off+j,none⟩=some v):(loadVar ty ⟨b,off,none⟩).run P w= .ok (.agg L.toArray) w:=by
 obtain⟨i,hi,fx⟩:=Option.map_eq_some_iff.1 hs
 have h1:=run_loadCells_list (P:=P) w ⟨b,off,none⟩ L (fun j v h=>by rw[Addr.add_lit];exact hL j v h)
 have h2:(isAgg ty).run P w= .ok true w:=by
  cases d<;>simp at hk<;>simp[isAgg,run_underlying hd]
 simp[loadVar,h2,sizeOf,typeInfo,hi,fx,h1]
theorem eO {P:Program}{w:World}{ty:TypeId}{a:Addr}{v:Value}{d:TypeDesc}(hd:P.underlying ty=some d)(hk:(match d with| .struct _| .array _ _=>False|_=>True))
 (hv:w.cell? a=some v):(loadVar ty a).run P w= .ok v w:=by
 have h2:(isAgg ty).run P w= .ok false w:=by
  cases d<;>simp at hk<;>simp[isAgg,run_underlying hd]
 simp[loadVar,h2,hv]
def uq (a:Act):ResultVar→Sem Value
 | .tmp t=>pure (a.tmps.getD t undef)
 | .cell t ty=>do loadVar ty (←asAddr (a.tmps.getD t undef))
theorem RV.run {P:Program}{n:Nat}{F:Fr}{H:List bE}{r:ResultVar}{v:Value}(h:RV P F H r v){a:Act}(ha:Has n a F){c:Ctx}{w:World}(hw:Mm c H w):
 (uq a r).run P w= .ok v w:=by
 obtain⟨ρ,hm⟩:=hw.out
 cases r with
 |tmp t=>simp[RV]at h;simp[uq,Array.getD_eq_getD_getElem?,ha.slot _ _ h]
 |cell t ty=>
  obtain⟨b,C,e,fr,h1,h2,h3⟩:=h
  have hb:=eK.1 (hm.ct _ h2)
  have hc:∀off,w.cell? ⟨b,off,none⟩=C[off]?:=fun off=>bp hb
  have ht:=ha.slot _ _ h1
  simp only[uq,Array.getD_eq_getD_getElem?,ht,Option.getD_some,asAddr,Sem.run_bind,Sem.run_pure,Result.andThen_ok]
  rcases h3 with⟨⟨fs,h4⟩,h5,rfl⟩|⟨h4,h5⟩
  ·have:=fZ (P:=P) (w:=w) (ty:=ty) (b:=b) (off:=0) (L:=C.toList) h4 trivial (by simpa using h5) (fun j v hj=>by rw[hc,Nat.zero_add];simpa using hj)
   simpa using this
  ·cases hd:P.underlying ty with
   |none=>rw[hd]at h4;exact h4.elim
   |some d=>rw[hd]at h4;exact eO hd (by cases d<;>simp_all) (by rw[hc];exact h5)
def I2 (P:Program)(F:Fr)(H:List bE):List ResultVar→List Value→Prop
 | [],[]=>True
 |r::rs,v::vs=>RV P F H r v∧I2 P F H rs vs
 |_,_=>False
theorem I2.run {P:Program}{n:Nat}{F:Fr}{H:List bE}{a:Act}(ha:Has n a F){c:Ctx}{w:World}(hw:Mm c H w):∀{rs:List ResultVar} {vs:List Value},I2 P F H rs vs→
 (rs.mapM (uq a)).run P w= .ok vs w
 | [],[],_=>by simp
 |r::rs,v::vs,h=>by
  have h1:=RV.run h.1 ha hw
  have h2:=I2.run ha hw h.2
  simp only[List.mapM_cons,Sem.run_bind,h1,Result.andThen_ok,h2,Sem.run_pure]
def A9:List Value→Value
 | [v]=>v
 |vs=> .tuple vs.toArray
theorem xG (fn:Func)(a:Act):results fn a.tmps=(fn.results.mapM (uq a)>>=fun vs=>pure (if h:vs.size=1 then vs[0]else .tuple vs)):=by
 unfold results
 congr 2
theorem St.Le {P:Program}{n:Nat}{F:Fr}{c:Ctx}{H:List bE}{fn:Func}{post:Value→List bE→Prop}{rl:List ResultVar}(vs:List Value)(H':List bE)
 (hr:fn.results=rl.toArray) (hv:I2 P F H rl vs) (hp:post (A9 vs) H') (hH:∀w,Mm c H w→Mm c H' w):
 St n F (Mm c H) (bodyPost P fn (fun e w'=>∃v H',e= .returned v∧post v H'∧Mm c H' w') .ret):=by
 intro a w ha hw;refine⟨ha.defers,_,?_,_,H',rfl,hp,hH w hw⟩
 have h2:=I2.run ha hw hv
 rw[xG,hr]
 simp only[List.mapM_toArray,Sem.run_bind,Sem.run_map,h2,Result.andThen_ok,Sem.run_pure]
 congr 1
 cases vs with
 |nil=>rfl
 |cons v vs=>cases vs<;>rfl
theorem St.gX {P:Program}{n:Nat}{F:Fr}{c:Ctx}{H:List bE}{fn:Func}{R:Ending→World→Prop}
 (h:St n F (Mm c H) (bodyPost P fn R .ret)):St n F (Mm c H) (bodyPost P fn R .normal):=h
abbrev ax:=List UInt8
abbrev sv (l:ax):Value:= .string ⟨l.toArray⟩
abbrev iv (n:Int):Value:= .int .i64 n
structure Rp (α:Type) where
 size:Nat
 pos:0<size
 cells:α→List Value
 wf:α→Prop
 len:∀x,(cells x).length=size
 one:∀x,∀u∈cells x,u.oneCell'=true
def aj (n:Int):Prop:= -9223372036854775808≤n∧n≤9223372036854775807
def aF:Rp Int:=⟨1,by decide,fun x=>[.int .i64 x],aj,fun _=>rfl,fun _ u h=>by simp at h;subst h;rfl⟩
def dH:Rp ax:=⟨1,by decide,fun x=>[sv x],fun x=>x.length≤140737488351232,fun _=>rfl,fun _ u h=>by simp at h;subst h;rfl⟩
def br:Rp {v:Value//v.oneCell'=true}:=⟨1,by decide,fun x=>[x.1],fun _=>True,fun _=>rfl,fun x u h=>by simp at h;subst h;exact x.2⟩
def rows {α:Type}(R:Rp α)(xs:List α):List Value:=xs.flatMap R.cells
theorem fo {α:Type}(R:Rp α)(xs:List α):(rows R xs).length=xs.length*R.size:=by
 induction xs with
 |nil=>simp[rows]
 |cons x xs ih=>simp only[rows,List.flatMap_cons,List.length_append,R.len,List.length_cons,Nat.add_mul]at ih⊢;omega
theorem mg {α:Type}(R:Rp α):∀(xs:List α) (k j:Nat) (x:α),xs[k]?=some x→j<R.size→(rows R xs)[k*R.size+j]?=(R.cells x)[j]?
 | [],_,_,_,h,_=>by simp at h
 |y::xs,0,j,x,h,hj=>by
  simp only[List.getElem?_cons_zero,Option.some.injEq]at h
  subst h
  simp only[rows,List.flatMap_cons,Nat.zero_mul,Nat.zero_add]
  rw[List.getElem?_append_left (by rw[R.len];exact hj)]
 |y::xs,k+1,j,x,h,hj=>by
  simp only[List.getElem?_cons_succ]at h
  have ih:=mg R xs k j x h hj
  simp only[rows,List.flatMap_cons]at ih⊢
  rw[List.getElem?_append_right (by rw[R.len,Nat.add_mul];omega),R.len]
  have e:(k+1)*R.size+j-R.size=k*R.size+j:=by rw[Nat.add_mul];omega
  rw[e];exact ih
def sl {α:Type}(R:Rp α)(v:Value)(xs:List α):dJ where
 f ρ:=∃a cap,v= .slice a xs.length cap∧xs.length≤cap∧cap≤maxLen∧(∀x∈xs,R.wf x)∧
  (xs=[]∨∃b off C e fr,a=some ⟨b,off,none⟩∧ρ b=some (.cells C e fr)∧∀j u,(rows R xs)[j]?=some u→C[off+j]?=some u)
 mono ρ gS h:=by
  rintro ⟨a,cap,h1,h2,h3,h4,h5⟩;refine⟨a,cap,h1,h2,h3,h4,?_⟩
  rcases h5 with h5|⟨b,off,C,e,fr,h6,h7,h8⟩
  ·exact .inl h5
  ·exact .inr ⟨b,off,C,e,fr,h6,h _ _ h7,h8⟩
class rm (v:Value)(H:List bE)(α:outParam Type)(R:outParam (Rp α))(xs:outParam (List α)):Prop where
 mem:aE (sl R v xs)∈H
instance (priority:=high) rm.here {α:Type}(v:Value)(R:Rp α)(xs:List α)(H:List bE):rm v (aE (sl R v xs)::H) α R xs:=⟨List.mem_cons_self ..⟩
instance rm.there {α:Type}(v:Value)(R:Rp α)(xs:List α)(E:bE)(H:List bE)[h:rm v H α R xs]:rm v (E::H) α R xs:=⟨List.mem_cons_of_mem _ h.mem⟩
class fw {α:Type}(R:Rp α)(x:α)(L:outParam (List Value)):Prop where
 eq:R.cells x=L
@[irreducible] def di (v:Value)(size k off:Nat):Value:=
 match v with
 | .slice (some a) _ _=> .pointer (some (a.add (k*size+off)))
 |_=>undef
theorem dk (b o n c size k off:Nat):di (.slice (some ⟨b,o,none⟩) n c) size k off= .pointer (some ⟨b,o+(k*size+off),none⟩):=by
 unfold di;simp only[Addr.add_lit]
section
variable {P:Program}{n:Nat}{F:Fr}{A:World→Prop}{c:Ctx}{H:List bE}{ty:TypeId}{x y z:Operand}{v:Value}
theorem Ev.of_run {op:Op}(h:∀a w,Has n a F→A w→(execOp a.eval (bare op ty)).run P w= .ok (.value v) w):Ev P n F A op ty v:=
 fun a w ha hw=>by rw[h a w ha hw];exact⟨rfl,rfl⟩
theorem Ev.move (hx:aL F x v):Ev P n F A (.move x) ty v:= .of_run fun a w ha _=>by simp[execOp,hx.eval ha]
theorem Ev.assign (hx:aL F x v):Ev P n F A (.assign x) ty v:= .of_run fun a w ha _=>by simp[execOp,hx.eval ha]
theorem Ev.and {p q:Bool}(hx:aL F x (.bool p))(hy:p=true→aL F y (.bool q)):Ev P n F A (.pick x y (.const (.bool false))) ty (.bool (p&&q)):= .of_run fun a w ha _=>by
 cases p with
 |true=>simp only[execOp,hx.eval ha,(hy rfl).eval ha];simp[asBool]
 |false=>simp only[execOp,hx.eval ha];simp[asBool,Act.eval]
theorem Ev.or {p q:Bool}(hx:aL F x (.bool p))(hy:(!p)=true→aL F y (.bool q)):Ev P n F A (.pick x (.const (.bool true)) y) ty (.bool (p||q)):= .of_run fun a w ha _=>by
 cases p with
 |true=>simp only[execOp,hx.eval ha];simp[asBool,Act.eval]
 |false=>simp only[execOp,hx.eval ha,(hy rfl).eval ha];simp[asBool]
theorem Ev.not {p:Bool}(hx:aL F x (.bool p)){t:TypeId}:Ev P n F A (.unOp .not t x) ty (.bool (!p)):= .of_run fun a w ha _=>by
 simp[execOp,hx.eval ha,Op.unary]
section ints
variable {k:IntKind}{i j:Int}{t u:TypeId}
theorem Ev.lss (hx:aL F x (.int k i))(hy:aL F y (.int k j)):Ev P n F A (.binOp .lss t x y u) ty (.bool (decide (i<j))):= .of_run fun a w ha _=>by simp only[execOp,hx.eval ha,hy.eval ha];simp[go_sem]
theorem Ev.leq (hx:aL F x (.int k i))(hy:aL F y (.int k j)):Ev P n F A (.binOp .leq t x y u) ty (.bool (decide (i≤j))):= .of_run fun a w ha _=>by simp only[execOp,hx.eval ha,hy.eval ha];simp[go_sem]
theorem Ev.gtr (hx:aL F x (.int k i))(hy:aL F y (.int k j)):Ev P n F A (.binOp .gtr t x y u) ty (.bool (decide (j<i))):= .of_run fun a w ha _=>by simp only[execOp,hx.eval ha,hy.eval ha];simp[go_sem]
theorem Ev.geq (hx:aL F x (.int k i))(hy:aL F y (.int k j)):Ev P n F A (.binOp .geq t x y u) ty (.bool (decide (j≤i))):= .of_run fun a w ha _=>by simp only[execOp,hx.eval ha,hy.eval ha];simp[go_sem]
theorem Ev.eql (hx:aL F x (.int k i))(hy:aL F y (.int k j)):Ev P n F A (.binOp .eql t x y u) ty (.bool (decide (i=j))):= .of_run fun a w ha _=>by
 simp only[execOp,hx.eval ha,hy.eval ha];simp[go_sem]
 rfl
theorem Ev.neq (hx:aL F x (.int k i))(hy:aL F y (.int k j)):Ev P n F A (.binOp .neq t x y u) ty (.bool (!decide (i=j))):= .of_run fun a w ha _=>by
 simp only[execOp,hx.eval ha,hy.eval ha];simp[go_sem]
 rfl
theorem Ev.RY (hx:aL F x (.int k i))(hy:aL F y (.int k j)):Ev P n F A (.binOp .add t x y u) ty (.int k (k.wrap (i+j))):= .of_run fun a w ha _=>by simp only[execOp,hx.eval ha,hy.eval ha];simp[go_sem,Op.intArith]
theorem Ev.RZ (hx:aL F x (.int k i))(hy:aL F y (.int k j)):Ev P n F A (.binOp .sub t x y u) ty (.int k (k.wrap (i-j))):= .of_run fun a w ha _=>by simp only[execOp,hx.eval ha,hy.eval ha];simp[go_sem,Op.intArith]
theorem tF {i:Int}(h: -9223372036854775808≤i∧i≤9223372036854775807):IntKind.i64.wrap i=i:=by
 simp only[IntKind.wrap,IntKind.bits,IntKind.signed]
 simp
 omega
theorem Ev.add (hx:aL F x (iv i))(hy:aL F y (iv j))(h: -9223372036854775808≤i+j∧i+j≤9223372036854775807):Ev P n F A (.binOp .add t x y u) ty (iv (i+j)):=by
 have:=Ev.RY (P:=P) (n:=n) (A:=A) (ty:=ty) (t:=t) (u:=u) hx hy;rwa[tF h]at this
theorem Ev.sub (hx:aL F x (iv i))(hy:aL F y (iv j))(h: -9223372036854775808≤i-j∧i-j≤9223372036854775807):Ev P n F A (.binOp .sub t x y u) ty (iv (i-j)):=by
 have:=Ev.RZ (P:=P) (n:=n) (A:=A) (ty:=ty) (t:=t) (u:=u) hx hy;rwa[tF h]at this
theorem Ev.Ra {k':IntKind}(hx:aL F x (.int k i))(hy:aL F y (.int k' j))(h:0≤j):Ev P n F A (.binOp .shl t x y u) ty (.int k (k.wrap (i*2^(min j.toNat k.bits)))):= .of_run fun a w ha _=>by
 simp only[execOp,hx.eval ha,hy.eval ha];simp[go_sem,Op.shift,Int.not_lt.2 h]
theorem Ev.shr {k':IntKind}(hx:aL F x (.int k i))(hy:aL F y (.int k' j))(h:0≤j):Ev P n F A (.binOp .shr t x y u) ty (.int k (i.fdiv (2^(min j.toNat k.bits)))):= .of_run fun a w ha _=>by
 simp only[execOp,hx.eval ha,hy.eval ha];simp[go_sem,Op.shift,Int.not_lt.2 h]
theorem Ev.I3 {k':IntKind}{s d:TypeId}(hx:aL F x (.int k i))(hs:(P.underlying s).isSome=true)(hd:P.underlying d=some (.int k')):Ev P n F A (.convert s d x) ty (.int k' (k'.wrap i)):= .of_run fun a w ha _=>by
 obtain⟨d0,I4⟩:=Option.isSome_iff_exists.mp hs
 simp[execOp,hx.eval ha,convert,run_underlying I4,run_underlying hd,Conv.intToInt]
end ints
section strings
variable {s r:ax}{t u:TypeId}
theorem Ev.fC (hx:aL F x (sv s))(hy:aL F y (sv r)):Ev P n F A (.binOp .eql t x y u) ty (.bool (s==r)):= .of_run fun a w ha _=>by simp only[execOp,hx.eval ha,hy.eval ha];simp[go_sem]
theorem Ev.oU (hx:aL F x (sv s))(hy:aL F y (sv r)):Ev P n F A (.binOp .neq t x y u) ty (.bool (!(s==r))):= .of_run fun a w ha _=>by simp only[execOp,hx.eval ha,hy.eval ha];simp[go_sem]
theorem Ev.fH (hx:aL F x (sv s))(hy:aL F y (sv r))(h:s.length+r.length≤9223372036854775807):Ev P n F A (.binOp .add t x y u) ty (sv (s++r)):= .of_run fun a w ha _=>by
 have h1:=run_string_add_sum (P:=P) w ⟨s.toArray⟩ ⟨r.toArray⟩ (by simpa[ByteArray.size]using h)
 simp only[execOp,hx.eval ha,hy.eval ha,eqGuard_at_string,binOp_string_add,Sem.run_bind,Sem.run_pure,Result.andThen_ok,h1,ByteArray.mk_append_mk]
theorem Ev.dF {o:TypeId}(hx:aL F x (sv s))(ht:P.underlying o=some .string):Ev P n F A (.call {callee:= .builtin .len,args:= #[x],argTypes:= #[o]}) ty (iv s.length):= .of_run fun a w ha _=>by
 have h1:=run_len_string (P:=P) w o ty ⟨s.toArray⟩ ht
 simp[execOp,resolve,invoke,builtin,hx.eval ha,h1,goInt,ByteArray.size]
theorem Ev.JS {k:Nat}{i:Int}{b:UInt8}(hx:aL F x (sv s))(hy:aL F y (iv i))(ht:P.underlying t=some .string)(hi:i=k)(hb:s[k]?=some b):
 Ev P n F A (.index t x y) ty (.int .u8 b.toNat):= .of_run fun a w ha _=>by
 subst hi
 have iU:k<(⟨s.toArray⟩:ByteArray).size:=by simpa[ByteArray.size]using (List.getElem?_eq_some_iff.1 hb).1
 have h1:(⟨s.toArray⟩:ByteArray)[k]?=some b:=by
  rw[ByteArray.getElem?_lt' _ _ iU]
  have:=(List.getElem?_eq_some_iff.1 hb).2
  simpa[ByteArray.getElem_eq_getElem_data]using this
 simp[execOp,hx.eval ha,hy.eval ha,Instr.index,asIntOf,run_underlying ht,h1]
theorem Ev.fz {k:Nat}{i:Int}(hx:aL F x (sv s))(hy:aL F y (iv i))(ht:P.underlying t=some .string)(hi:i=k)(hb:k<s.length):
 Ev P n F A (.index t x y) ty (.int .u8 (s.getD k 0).toNat):=Ev.JS hx hy ht hi (by simp[List.getD_eq_getElem?_getD,List.getElem?_eq_getElem hb])
theorem Ev.extract {vs:List Value}{i:Nat}(hx:aL F x (.tuple vs.toArray))(hi:vs[i]?=some v):Ev P n F A (.extract x i) ty v:= .of_run fun a w ha _=>by
 simp[execOp,hx.eval ha,Instr.extract,hi]
end strings
section slices
variable {α:Type}{R:Rp α}{xs:List α}{t:TypeId}
theorem dt.aE {H:List bE}{ρ:Ro}{w:World}{d:dJ}(h:dt c H ρ w)(hd:iE d H):d.f ρ:=cw.1 (h.ct _ hd.mem)
theorem dt.sl {H:List bE}{ρ:Ro}{w:World}(h:dt c H ρ w)(hd:rm v H α R xs):(J.sl R v xs).f ρ:=cw.1 (h.ct _ hd.mem)
theorem Ev.bA {e:TypeId}[hd:rm v H α R xs](hx:aL F x v)(ht:P.underlying t=some (.slice e)):
 Ev P n F (Mm c H) (.call {callee:= .builtin .len,args:= #[x],argTypes:= #[t]}) ty (iv xs.length):= .of_run fun a w ha hw=>by
 obtain⟨ρ,hm⟩:=hw.out;obtain⟨ad,cap,rfl,_⟩:=hm.sl hd
 simp[execOp,resolve,invoke,builtin,hx.eval ha,Builtin.len_,run_underlying ht,goInt]
theorem Ev.aa {e:TypeId}{k:Nat}{i:Int}{kd:IntKind}[hd:rm v H α R xs](hx:aL F x v)(hy:aL F y (.int kd i))(ht:P.underlying t=some (.slice e))(hs:(P.info? e).map (·.size)=some R.size)
 (hi:i=k) (hk:k<xs.length):Ev P n F (Mm c H) (.indexAddr t x y) ty (di v R.size k 0):= .of_run fun a w ha hw=>by
 obtain⟨ρ,hm⟩:=hw.out;obtain⟨ad,cap,rfl,_,_,_,h5⟩:=hm.sl hd
 rcases h5 with rfl|⟨b,off,C,e',fr,rfl,h6,h7⟩
 ·simp at hk
 ·obtain⟨inf,pB,fx⟩:=Option.map_eq_some_iff.1 hs
  subst hi
  simp[execOp,hx.eval ha,hy.eval ha,Instr.indexAt,asIntOf,run_underlying ht,sizeOf,typeInfo,pB,fx,hk,dk,Addr.add_lit]
theorem zD {H:List bE}{ρ:Ro}{w:World}(hm:dt c H ρ w)(hd:rm v H α R xs){k off:Nat}{x:α}(hk:xs[k]?=some x):
 ∃b o,di v R.size k off= .pointer (some ⟨b,o,none⟩)∧∀j,off+j<R.size→w.cell? ⟨b,o+j,none⟩=(R.cells x)[off+j]?:=by
 obtain⟨ad,cap,rfl,_,_,_,h5⟩:=hm.sl hd
 rcases h5 with rfl|⟨b,o,C,e',fr,rfl,h6,h7⟩
 ·simp at hk
 ·refine⟨b,_,dk ..,fun j hj=> ?_⟩
  have hg:=mg R xs k (off+j) x hk hj
  rw[bp (hm.fits _ _ h6)]
  have iU:off+j<(R.cells x).length:=by rw[R.len];exact hj
  rw[List.getElem?_eq_getElem iU]at hg⊢;rw[show o+(k*R.size+off)+j=o+(k*R.size+(off+j)) by omega];exact h7 _ _ hg
theorem AA {β:Type}(d:β){l:List β}{k:Nat}(h:k<l.length):l[k]?=some (l.getD k d):=by rw[List.getD_eq_getElem?_getD,List.getElem?_eq_getElem h];rfl
theorem Ev.jA {k off:Nat}{e:α}{d:TypeDesc}{u:Value}[hd:rm v H α R xs](hx:aL F x (di v R.size k off))(hk:xs[k]?=some e)(ht:P.underlying t=some d)(pQ:(match d with| .struct _| .array _ _=>False|_=>True))
 (hu:(R.cells e)[off]?=some u):Ev P n F (Mm c H) (.load t x) ty u:= .of_run fun a w ha hw=>by
 obtain⟨ρ,hm⟩:=hw.out
 have ho:off<R.size:=by have:=(List.getElem?_eq_some_iff.1 hu).1;rwa[R.len]at this
 obtain⟨b,o,h1,h2⟩:=zD hm hd hk
 have h3:=h2 0 (by simpa using ho)
 simp only[Nat.add_zero]at h3
 rw[h1]at hx
 simp[execOp,hx.eval ha,Instr.loadAt,Instr.sureAddr,eO ht pQ (h3.trans hu)]
theorem Ev.iH {k:Nat}{e:α}{d:TypeDesc}{L:List Value}[hd:rm v H α R xs](hx:aL F x (di v R.size k 0))(hk:xs[k]?=some e)(ht:P.underlying t=some d)(pQ:(match d with| .struct _| .array _ _=>True|_=>False))
 (hs:(P.info? t).map (·.size)=some R.size) (hL:R.cells e=L):Ev P n F (Mm c H) (.load t x) ty (.agg L.toArray):= .of_run fun a w ha hw=>by
 obtain⟨ρ,hm⟩:=hw.out;obtain⟨b,o,h1,h2⟩:=zD hm hd hk (off:=0);subst hL;rw[h1]at hx
 have h4:=fZ (P:=P) (w:=w) (b:=b) (off:=o) (L:=R.cells e) ht pQ (by rw[hs,R.len]) (fun j u hj=>by
  have iU:=(List.getElem?_eq_some_iff.1 hj).1
  rw[R.len]at iU
  have:=h2 j (by omega)
  rw[Nat.zero_add]at this
  rw[this];exact hj)
 simp[execOp,hx.eval ha,Instr.loadAt,Instr.sureAddr,h4]
def ak (P:Program)(s i:Nat):Option Nat:=
 match P.underlying s with
 |some (.struct fs)=>match fs[i]? with
  |some f=>match P.info? f.type with
   |some inf=>if inf.size=0 then none else some f.offset
   |none=>none
  |none=>none
 |_=>none
theorem jI {w:World}{s i o:Nat}{ad:Addr}(h:ak P s i=some o):(Instr.fieldAt s (.pointer (some ad)) i).run P w= .ok (.pointer (some (ad.add o))) w:=by
 unfold ak at h
 split at h
 ·rename_i fs hu
  split at h
  ·rename_i f hf
   split at h
   ·rename_i inf pB
    split at h
    ·simp at h
    ·rename_i hz
     simp only[Option.some.injEq]at h
     subst h
     simp[Instr.fieldAt,run_underlying hu,hf,Instr.sureAddr,fieldPlace,sizeOf,typeInfo,pB,hz]
   ·simp at h
  ·simp at h
 ·simp at h
theorem Ev.eY {k off o i:Nat}{s:TypeId}[hd:rm v H α R xs](hx:aL F x (di v R.size k off))(hk:k<xs.length)(ho:ak P s i=some o):Ev P n F (Mm c H) (.fieldAddr s x i) ty (di v R.size k (off+o)):= .of_run fun a w ha hw=>by
 obtain⟨ρ,hm⟩:=hw.out;obtain⟨ad,cap,rfl,_,_,_,h5⟩:=hm.sl hd
 rcases h5 with rfl|⟨b,of,C,e',fr,rfl,h6,h7⟩
 ·simp at hk
 ·rw[dk]at hx
  simp[execOp,hx.eval ha,jI ho,dk,Addr.add_lit,Nat.add_assoc]
end slices
section blocks
variable {t:TypeId}{b off:Nat}{C:Array Value}{e:TypeId}{fr:Nat×Nat}
theorem Ev.Rb {o i:Nat}{s:TypeId}(hx:aL F x (.pointer (some ⟨b,off,none⟩)))(ho:ak P s i=some o):Ev P n F A (.fieldAddr s x i) ty (.pointer (some ⟨b,off+o,none⟩)):= .of_run fun a w ha hw=>by
 simp[execOp,hx.eval ha,jI ho,Addr.add_lit]
theorem Ev.aD {o i:Nat}{s:TypeId}(hx:aL F x (.pointer (some ⟨b,0,none⟩)))(ho:ak P s i=some o):Ev P n F A (.fieldAddr s x i) ty (.pointer (some ⟨b,o,none⟩)):=by
 have:=Ev.Rb (P:=P) (n:=n) (A:=A) (ty:=ty) hx ho
 rwa[Nat.zero_add]at this
theorem Ev.cY {d:TypeDesc}{u:Value}{L:List Value}[hb:c4 b H (.cells L.toArray e fr)](hx:aL F x (.pointer (some ⟨b,off,none⟩)))(ht:P.underlying t=some d)(pQ:(match d with| .struct _| .array _ _=>False|_=>True))
 (hu:L[off]?=some u):Ev P n F (Mm c H) (.load t x) ty u:= .of_run fun a w ha hw=>by
 obtain⟨ρ,hm⟩:=hw.out
 have h1:=eK.1 (hm.ct _ hb.mem)
 have h2:w.cell? ⟨b,off,none⟩=some u:=by rw[bp h1];simpa using hu
 simp[execOp,hx.eval ha,Instr.loadAt,Instr.sureAddr,eO ht pQ h2]
theorem Ev.an {d:TypeDesc}{L:List Value}[hb:c4 b H (.cells L.toArray e fr)](hx:aL F x (.pointer (some ⟨b,0,none⟩)))(ht:P.underlying t=some d)(pQ:(match d with| .struct _| .array _ _=>True|_=>False))
 (hs:(P.info? t).map (·.size)=some L.length):Ev P n F (Mm c H) (.load t x) ty (.agg L.toArray):= .of_run fun a w ha hw=>by
 obtain⟨ρ,hm⟩:=hw.out
 have h1:=eK.1 (hm.ct _ hb.mem)
 have h4:=fZ (P:=P) (w:=w) (b:=b) (off:=0) (L:=L) ht pQ hs (fun j u hj=>by rw[bp h1];simpa using hj)
 simp[execOp,hx.eval ha,Instr.loadAt,Instr.sureAddr,h4]
end blocks
def aQ (F:Fr):List Operand→List Value→Prop
 | [],[]=>True
 |x::xs,v::vs=>aL F x v∧aQ F xs vs
 |_,_=>False
theorem aQ.nil:aQ F [] []:=trivial
theorem aQ.cons {xs:List Operand}{vs:List Value}(h:aL F x v)(k:aQ F xs vs):aQ F (x::xs) (v::vs):=⟨h,k⟩
theorem aQ.eval {a:Act}(ha:Has n a F):∀{xs:List Operand} {vs:List Value},aQ F xs vs→xs.map a.eval=vs
 | [],[],_=>rfl
 |x::xs,v::vs,h=>by rw[List.map_cons,h.1.eval ha,aQ.eval ha h.2]
theorem Ev.build {t:TypeId}{ps:List (Nat×Operand)}{vs:List Value}(hp:aQ F (ps.map (·.2)) vs)(hr:∀w,(Instr.build t ((ps.map (·.1)).zip vs).toArray).run P w= .ok v w):Ev P n F A (.build t ps.toArray) ty v:= .of_run fun a w ha _=>by
 have h1:ps.map (fun p=>(p.1,a.eval p.2))=(ps.map (·.1)).zip vs:=by
  rw[←aQ.eval ha hp]
  clear hp hr
  induction ps with
  |nil=>rfl
  |cons p ps ih=>simp[ih]
 have h2:(ps.toArray.map fun(i,x)=>(i,a.eval x))=((ps.map (·.1)).zip vs).toArray:=by
  rw[←h1];simp
 simp only[execOp,h2,Sem.run_bind,hr,Result.andThen_ok,Sem.run_pure]
theorem tG {f : FuncId} {args : Array Value} {w : World} {fn : Func} (hf : P.funcs[f]? = some fn) (hb : fn.body.isSome = true) (hn : (fn.name == "runtime.NumGoroutine") = false) : (callFunc f args).run P w = .ok (.enter f args) w := by
 unfold callFunc
 simp[hf]
 cases YD:fn.body with
 |none=>simp[YD]at hb
 |some cd=>simpa using hn
end
theorem dt.AB {c:Ctx}{H:List bE}{ρ:Ro}{w w':World}{E:bE}(h:dt c H ρ w)(Rc:w'.os=w.os)(ht:w'.tape=w.tape∧w.drawn≤w'.drawn)(ho:w'.output=w.output)(hs:w.heap.size≤w'.heap.size)
 (hk:∀k,k<w.heap.size→w'.heap[k]?=w.heap[k]?) (hE:E.ok ρ w') (xH:∀b,E.key=some b→w.heap.size≤b):dt c (E::H) ρ w':=by
 have h':dt c ([]++H) ρ w:=h
 refine dt.step (H2:=[E]) h' ⟨Rc,⟨ht.1,fun _=>ht.2⟩,ho,hs,fun k pQ _=>hk k pQ,fun k o hr=> ?_,Ro.le_refl _,fun _ _ _=>rfl,?_,?_,?_⟩
 ·rw[hk k (h.I0 hr)];exact h.fits k o hr
 ·intro E' wj;simp at wj;subst wj;exact hE
 ·intro E' wj b hb
  simp at wj;subst wj
  refine⟨?_,.inl (xH b hb)⟩
  cases hr:ρ b with
  |none=>rfl
  |some o=>have h1:=h.I0 hr;have h2:=xH b hb;omega
 ·exact List.pairwise_singleton ..
theorem dt.alter {c:Ctx}{H:List bE}{ρ:Ro}{w w':World}{E E':bE}(h:dt c (E::H) ρ w)(Rc:w'.os=w.os)(ht:w'.tape=w.tape∧w.drawn≤w'.drawn)(ho:w'.output=w.output)(hs:w.heap.size≤w'.heap.size)
 (hk:∀k,k<w.heap.size→E.key≠some k→w'.heap[k]?=w.heap[k]?) (hE:E'.ok ρ w') (xH:∀b,E'.key=some b→E.key=some b∨w.heap.size≤b):dt c (E'::H) ρ w':=by
 have h':dt c ([E]++H) ρ w:=h
 refine dt.step (H2:=[E']) h' ⟨Rc,⟨ht.1,fun _=>ht.2⟩,ho,hs,fun k pQ I5=>hk k pQ (fun e=>I5 ⟨E,by simp,e⟩),fun k o hr=> ?_,Ro.le_refl _,fun _ _ _=>rfl,?_,?_,?_⟩
 ·rw[hk k (h.I0 hr)]
  ·exact h.fits k o hr
  ·intro e
   have:=(h.own E (by simp) k e).1
   rw[hr]at this;cases this
 ·intro RX xF;simp at xF;subst xF;exact hE
 ·intro RX xF b hb
  simp at xF;subst xF
  rcases xH b hb with h1|h1
  ·exact⟨(h.own E (by simp) b h1).1,.inr ⟨E,by simp,h1⟩⟩
  ·refine⟨?_,.inl h1⟩
   cases hr:ρ b with
   |none=>rfl
   |some o=>have:=h.I0 hr;omega
 ·exact List.pairwise_singleton ..
theorem dt.alloc {c:Ctx}{H:List bE}{ρ:Ro}{w:World}(h:dt c H ρ w)(o:Obj):dt c (aZ w.heap.size o::H) ρ (w.alloc o):=
 h.AB rfl ⟨rfl,Nat.le_refl _⟩ rfl (by simp) (fun k hk=>RowKit.Below.heap_alloc w _ k hk) (eK.2 (heap_alloc_new w o)) (fun b hb=>by rw[gT]at hb;simp at hb;omega)
class AD (L:List Value)(off:Nat)(v:Value)(L':outParam (List Value)):Prop where
 eq:L.set off v=L'
instance AD.here (x:Value)(L:List Value)(v:Value):AD (x::L) 0 v (v::L):=⟨rfl⟩
instance AD.there (x:Value)(L:List Value)(v:Value)(k:Nat)(L':List Value)[h:AD L k v L']:AD (x::L) (k+1) v (x::L'):=⟨by rw[List.set_cons_succ,h.eq]⟩
class tH (v:Value)(H:List bE)(e:outParam TypeId)(size n:outParam Nat)(cs:outParam (List Value)):Prop where
 mem:row v e size n cs∈H
instance (priority:=high) tH.here (v:Value)(e:TypeId)(size n:Nat)(cs:List Value)(H:List bE):tH v (row v e size n cs::H) e size n cs:=⟨List.mem_cons_self ..⟩
instance tH.there (v:Value)(e:TypeId)(size n:Nat)(cs:List Value)(E:bE)(H:List bE)[h:tH v H e size n cs]:tH v (E::H) e size n cs:=⟨List.mem_cons_of_mem _ h.mem⟩
theorem bR (C:Array Value):(Value.agg C).cells=C:=rfl
theorem aB {v:Value}(h:v.oneCell'=true):v.cells= #[v]:=by
 cases v<;>first|rfl|simp[Value.oneCell']at h
section
variable {P:Program}{n:Nat}{F:Fr}{A:World→Prop}{c:Ctx}{H R:List bE}{ty:TypeId}{x y z:Operand}{v:Value}{Q:Exit→Act→World→Prop}{ops:Array Oper}{rest:List Oper}
 {d:Nat} {pos:String} {after:Array Edge} {t e:TypeId}
theorem St.alloc {Z:Array Value}(hz:(P.info? t).bind (fun i=>i.zero.map Value.cells)=some Z)(hd:Nat.ble (d+1) n=true)
 (h:∀b,St n ((d,.pointer (some ⟨b,0,none⟩))::F) (Mm c (aZ b (.cells Z t (0,0))::H)) (wpList P ops Q rest)):
 St n F (Mm c H) (wpList P ops Q ({dst:=some d,op:= .alloc t,type:=ty,pos:=pos,after:=after,guard:=none}::rest)):=by
 refine St.I1 (K:=fun u H'=>∃b,u= .pointer (some ⟨b,0,none⟩)∧H'=aZ b (.cells Z t (0,0))::H) ?_ hd ?_
 ·intro a w ρ ha hm
  obtain⟨i,hi,Rd⟩:=Option.bind_eq_some_iff.1 hz;obtain⟨zv,rA,rfl⟩:=Option.map_eq_some_iff.1 Rd;refine⟨.value (.pointer (some ⟨w.heap.size,0,none⟩)),w.alloc (.cells zv.cells t),ρ,_,?_,⟨_,.inl rfl,_,rfl,rfl⟩,hm.alloc _⟩
  simp[execOp,Instr.alloc,zeroValue,typeInfo,hi,rA,newVar,newRow]
 ·rintro _ _ ⟨b,rfl,rfl⟩
  exact h b
theorem St.dS {L:List Value}(hx:aL F x (.agg L.toArray))(hd:Nat.ble (d+1) n=true)
 (h:∀b,St n ((d,.pointer (some ⟨b,0,none⟩))::F) (Mm c (aZ b (.cells L.toArray t (0,0))::H)) (wpList P ops Q rest)):
 St n F (Mm c H) (wpList P ops Q ({dst:=some d,op:= .box t x,type:=ty,pos:=pos,after:=after,guard:=none}::rest)):=by
 refine St.I1 (K:=fun u H'=>∃b,u= .pointer (some ⟨b,0,none⟩)∧H'=aZ b (.cells L.toArray t (0,0))::H) ?_ hd ?_
 ·intro a w ρ ha hm
  refine⟨.value (.pointer (some ⟨w.heap.size,0,none⟩)),w.alloc (.cells L.toArray t),ρ,_,?_,⟨_,.inl rfl,_,rfl,rfl⟩,hm.alloc _⟩
  simp[execOp,Instr.box,hx.eval ha,newVar,newRow,Value.cells]
 ·rintro _ _ ⟨b,rfl,rfl⟩
  exact h b
theorem kX {w:World}{b off:Nat}{C:Array Value}{v:Value}(h:w.heap[b]?=some (.cells C e (0,0))):(w.setCell ⟨b,off,none⟩ v).heap[b]?=some (.cells (C.setIfInBounds off v) e (0,0)):=by
 simp[World.setCell,Array.getElem?_modify,h]
theorem St.bQ {b off:Nat}{L L':List Value}[tk:kL b H (.cells L.toArray e (0,0)) R](hx:aL F x (.pointer (some ⟨b,off,none⟩)))(hy:aL F y v)[sl:AD L off v L'](hs:(P.info? t).map (·.size)=some 1)(h1:v.oneCell'=true)
 (AE:Nat.ble (off+1) L.length=true) (h:St n F (Mm c (aZ b (.cells L'.toArray e (0,0))::R)) (wpList P ops Q rest)):
 St n F (Mm c H) (wpList P ops Q ({dst:=none,op:= .store t x y,type:=ty,pos:=pos,after:=after,guard:=none}::rest)):=by
 refine St.lT (K:=fun u H'=>H'=aZ b (.cells L'.toArray e (0,0))::R) ?_ ?_
 ·intro a w ρ ha hm
  have iT:=hm.perm tk.perm
  have hb:=eK.1 (iT.ct _ (List.mem_cons_self ..))
  have ho:=Nat.le_of_ble_eq_true AE
  have hc:w.cell? ⟨b,off,none⟩=some L[off]:=by rw[bp hb];simp
  have hf:w.frozen? ⟨b,off,none⟩=false:=by simp[World.frozen?,hb]
  obtain⟨i,hi,fx⟩:=Option.map_eq_some_iff.1 hs;refine⟨.skip,w.setCell ⟨b,off,none⟩ v,ρ,_,?_,⟨_,.inr ⟨rfl,rfl⟩,rfl⟩,?_⟩
  ·simp[execOp,hx.eval ha,hy.eval ha,Instr.storeAt,Instr.sureAddr,storeVar,sizeOf,typeInfo,hi,fx,aB h1,storeCells,run_store P w _ v _ h1,hc,hf,Addr.add_zero']
  ·refine iT.alter rfl ⟨rfl,Nat.le_refl _⟩ rfl (by simp) (fun k hk er=> ?_) (eK.2 ?_) (fun b' jC=>by rw[gT]at jC⊢;exact .inl jC)
   ·rw[gT]at er
    simp only[World.setCell,Array.getElem?_modify]
    rw[if_neg (fun e=>er (by rw[e]))]
   ·rw[kX hb,←sl.eq]
    simp
 ·rintro _ _ rfl
  exact h
theorem St.JT {b:Nat}{L L':List Value}[tk:kL b H (.cells L.toArray t (0,0)) R](hx:aL F x (.pointer (some ⟨b,0,none⟩)))(hy:aL F y (.agg L'.toArray))(hs:(P.info? e).map (·.size)=some L'.length)(hl:L.length=L'.length)
 (h1:L'.all (·.oneCell')=true) (h:St n F (Mm c (aZ b (.cells L'.toArray t (0,0))::R)) (wpList P ops Q rest)):
 St n F (Mm c H) (wpList P ops Q ({dst:=none,op:= .store e x y,type:=ty,pos:=pos,after:=after,guard:=none}::rest)):=by
 refine St.lT (K:=fun u H'=>H'=aZ b (.cells L'.toArray t (0,0))::R) ?_ ?_
 ·intro a w ρ ha hm
  have iT:=hm.perm tk.perm
  have hb:=eK.1 (iT.ct _ (List.mem_cons_self ..))
  have hr:=run_storeVar_row (P:=P) w b t e L.toArray L'.toArray hb (by simpa using hs) (by simpa using hl) (by simpa using h1)
  refine⟨.skip,w.setRow b L'.toArray,ρ,_,?_,⟨_,.inr ⟨rfl,rfl⟩,rfl⟩,?_⟩
  ·simp[execOp,hx.eval ha,hy.eval ha,Instr.storeAt,Instr.sureAddr,hr]
  ·refine iT.alter rfl ⟨rfl,Nat.le_refl _⟩ rfl (by simp) (fun k hk er=> ?_) (eK.2 ?_) (fun b' jC=>by rw[gT]at jC⊢;exact .inl jC)
   ·rw[gT]at er
    exact setRow_other w b k _ (fun e=>er (by rw[e]))
   ·exact setRow_heap w b L.toArray L'.toArray t _ hb
 ·rintro _ _ rfl
  exact h
theorem Ev.func {f:FuncId}{cs:List Operand}{vs:List Value}(hc:aQ F cs vs):Ev P n F A (.makeFunc (.func f) #[] cs.toArray) ty (.func (.func f) #[] vs.toArray):= .of_run fun a w ha _=>by
 have:=aQ.eval ha hc
 simp[execOp,Instr.makeFunc,this]
theorem ur (size:Nat):∀(vs:List Value) (k:Nat) (pre post:List Value),pre.length=k*size→(∀u∈vs,u.cells.size=size)→post.length=vs.length*size→
 Instr.fill (fun i=>some (i*size,size)) (pre++post).toArray ((vs.zipIdx k).map fun p=>(p.2,p.1))=some (pre++vs.flatMap fun u=>u.cells.toList).toArray
 | [],k,pre,post,_,_,hp=>by
  have:post=[]:=List.eq_nil_of_length_eq_zero (by simpa using hp)
  subst this
  simp[Instr.fill]
 |u::vs,k,pre,post,Re,hu,Lf=>by
  have Qb:=hu u (by simp)
  have hlen:post.length=size+vs.length*size:=by rw[Lf,List.length_cons,Nat.add_mul];omega
  have Rf:∀(l:List Value) (m:Nat) (Z:List Value),m+l.length≤Z.length→((l.zipIdx m).foldl (fun cs p=>cs.setIfInBounds (k*size+p.2) p.1) (pre++Z).toArray)=(pre++(Z.take m++l++Z.drop (m+l.length))).toArray:=by
   intro l
   induction l with
   |nil=>intro m Z _;simp
   |cons y l ih=>
    intro m Z hZ
    simp only[List.length_cons]at hZ
    simp only[List.zipIdx_cons,List.foldl_cons]
    have e1:(pre++Z).toArray.setIfInBounds (k*size+m) y=(pre++Z.set m y).toArray:=by
     simp only[List.setIfInBounds_toArray]
     rw[List.set_append_right _ _ (by omega)]
     congr 2
     rw[show k*size+m-pre.length=m by omega]
    rw[e1,ih (m+1) (Z.set m y) (by simp;omega)]
    congr 2
    simp only[List.length_cons]
    rw[List.drop_set_of_lt (by omega),show m+1+l.length=m+(l.length+1) by omega];rw[List.take_set]
    have:(Z.take (m+1)).set m y=Z.take m++ [y]:=by
     rw[List.take_succ_eq_append_getElem (by omega),List.set_append_right _ _ (by simp[Nat.min_le_left])]
     simp[show min m Z.length=m by omega]
    rw[this]
    simp
  simp only[List.zipIdx_cons,List.map_cons,Instr.fill]
  have hb:¬(u.cells.size≠size∨(pre++post).toArray.size<k*size+u.cells.size):=by simp;omega
  have jC:((decide (u.cells.size≠size))||decide (k*size+u.cells.size>(pre++post).toArray.size))=false:=by
   simp;omega
  simp only[jC,Bool.false_eq_true,if_false]
  have hf:=Rf u.cells.toList 0 post (by simp;omega)
  have hz:u.cells.zipIdx.foldl (fun cs (c,j)=>cs.setIfInBounds (k*size+j) c) (pre++post).toArray=(pre++(u.cells.toList++post.drop size)).toArray:=by
   rw[←Array.foldl_toList]
   simp only[Array.toList_zipIdx]
   rw[hf]
   simp[Qb]
  rw[hz,←List.append_assoc]
  have ih:=ur size vs (k+1) (pre++u.cells.toList) (post.drop size) (by simp[Qb,Re,Nat.add_mul]) (fun x hx=>hu x (by simp[hx])) (by simp;omega)
  rw[ih]
  simp
theorem St.Fe {size:Nat}{xs:List Operand}{vs:List Value}{ps:List (Nat×Operand)}{zv:Value}(hp:ps=xs.zipIdx.map fun p=>(p.2,p.1))(hx:aQ F xs vs)(ht:P.underlying t=some (.slice e))(hs:(P.info? e).map (·.size)=some size)
 (hz:(P.info? e).bind (·.zero)=some zv) (nh:Nat.ble 1 size=true) (hlen:Nat.ble (vs.length*size) 16777216=true) (jl:∀u∈vs,u.cells.size=size) (hd:Nat.ble (d+1) n=true)
 {m:Nat} (hm:m=vs.length)
 (h:∀b,St n ((d,.slice (some ⟨b,0,none⟩) m m)::F) (Mm c (row (.slice (some ⟨b,0,none⟩) m m) e size m (vs.flatMap fun u=>u.cells.toList)::H)) (wpList P ops Q rest)):
 St n F (Mm c H) (wpList P ops Q ({dst:=some d,op:= .buildSlice t m ps.toArray,type:=ty,pos:=pos,after:=after,guard:=none}::rest)):=by
 subst hm;refine St.I1 (K:=fun u H'=>∃b,u= .slice (some ⟨b,0,none⟩) vs.length vs.length∧H'=row (.slice (some ⟨b,0,none⟩) vs.length vs.length) e size vs.length (vs.flatMap fun u=>u.cells.toList)::H) ?_ hd ?_
 ·intro a w ρ ha tI
  have hle:=Nat.le_of_ble_eq_true hlen
  have Qc:=aQ.eval ha hx
  have uu:xs.length=vs.length:=by rw[←Qc,List.length_map]
  obtain⟨i,hi,fx⟩:=Option.map_eq_some_iff.1 hs
  have Rg:i.zero=some zv:=by rw[hi]at hz;simpa using hz
  have Bk:(vs.flatMap fun u=>u.cells.toList).length=vs.length*size:=by
   clear hx Qc uu hle hlen h
   induction vs with
   |nil=>simp
   |cons u vs ih=>
    simp only[List.flatMap_cons,List.length_append,List.length_cons,Nat.add_mul]
    rw[ih (fun x hx=>jl x (by simp[hx]))]
    have:=jl u (by simp)
    simp[this];omega
  have xI:(ps.toArray.map fun(i,x)=>(i,a.eval x)).toList=(vs.zipIdx).map fun p=>(p.2,p.1):=by
   subst hp;rw[←Qc]
   simp[List.zipIdx_map,Function.comp_def]
  refine⟨.value (.slice (some ⟨w.heap.size,0,none⟩) vs.length vs.length),w.alloc (.cells (vs.flatMap fun u=>u.cells.toList).toArray e),ρ,_,?_,⟨_,.inl rfl,_,rfl,rfl⟩,?_⟩
  ·by_cases h0:vs.length*size=0
   ·have YE:vs=[]:=by
     rcases Nat.mul_eq_zero.1 h0 with h1|h1
     ·exact List.eq_nil_of_length_eq_zero h1
     ·have:=Nat.le_of_ble_eq_true nh;omega
    rw[YE]at xI⊢
    simp only[execOp,Instr.buildSlice,Sem.run_bind,run_underlying ht,Result.andThen_ok,sizeOf,typeInfo,Sem.run_pure,xI,run_program,hi,fx]
    simp[Instr.fill,newRow,Array.range_zero']
   ·obtain⟨z,WH⟩:∃z:List Value,((Array.range (vs.length*size)).map (zv.cells[· %zv.cells.size]!))=z.toArray:=⟨_,(Array.toArray_toList).symm⟩
    have Lg:z.length=vs.length*size:=by have:=congrArg Array.size WH;simpa using this.symm
    have hf:=ur size vs 0 [] z (by simp) jl Lg
    simp only[List.nil_append]at hf
    have YF:¬vs.length*size>2^24:=by simp;omega
    simp only[execOp,Instr.buildSlice,Sem.run_bind,run_underlying ht,Result.andThen_ok,sizeOf,typeInfo,Sem.run_pure,xI,run_program,hi,fx,zeroValue,Rg,YF,h0,if_false,WH,Sem.run_ite]
    simp[hf,newRow]
  ·refine tI.AB rfl ⟨rfl,Nat.le_refl _⟩ rfl (by simp) (fun k hk=>RowKit.Below.heap_alloc w _ k hk) (e6.2 ⟨Bk,.inr ⟨w.heap.size,vs.length,_,rfl,Nat.zero_le _,heap_alloc_new w _,Nat.le_refl _,?_,?_,?_⟩⟩) ?_
   ·have:vs.length≤vs.length*size:=Nat.le_mul_of_pos_right _ (Nat.le_of_ble_eq_true nh)
    unfold maxLen;omega
   ·rw[List.size_toArray,Bk]
   ·rw[←Bk,List.take_length]
   ·intro b hb;rw[eL]at hb;simp[Value.ownBlock]at hb;omega
 ·rintro _ _ ⟨b,rfl,rfl⟩
  exact h b
def aU (P : Program) (f : FuncId) : Prop := ∃ fn, P.funcs[f]? = some fn ∧ fn.body.isSome = true ∧ (fn.name == "runtime.NumGoroutine") = false
theorem aU.run {f:FuncId}(h:aU P f){args:Array Value}{w:World}:(callFunc f args).run P w= .ok (.enter f args) w:=
 let⟨_,h1,h2,h3⟩:=h;tG h1 h2 h3
theorem Mm.Bl {dr:Prop}{f:FuncId}{args:Array Value}{pre R:List bE}{post:Value→List bE→Prop}(hc:A8 dr P f args pre post)(gL:c.dr→dr){w:World}(hm:Mm c (pre++R) w):
 Calls P f args w fun e w'=>∃v H',e= .returned v∧post v H'∧Mm c (H'++R) w':=by
 obtain⟨ρ,hm⟩:=hm.out;refine(hc w ρ hm.start).mono ?_;rintro e w' ⟨v,H',he,hp,iT⟩;obtain⟨gS,iT⟩:=iT.out;exact⟨v,H',he,hp,Mm.mk (hm.step (iT.dr gL))⟩
theorem Mm.call {f:FuncId}{args:Array Value}{pre R:List bE}{post:Value→List bE→Prop}(hc:eI P f args pre post){w:World}(hm:Mm c (pre++R) w):
 Calls P f args w fun e w'=>∃v H',e= .returned v∧post v H'∧Mm c (H'++R) w':=Mm.Bl hc.gen (fun _=>trivial) hm
theorem Mm.kY {ds:List dJ}[hd:mK ds H]{w:World}(hm:Mm c H w):Mm c (ds.map aE++H) w:=
 let⟨_,k⟩:=hm.out;Mm.mk (k.uo ds fun d h=>cw.1 (k.ct _ (hd.mem d h)))
theorem jm {f:FuncId}{xs:List Operand}{rB:Array TypeId}{vs caps:List Value}(tJ:aU P f)(hx:aQ F (x::xs) (.func (.func f) #[] caps.toArray::vs)){a:Act}(ha:Has n a F)(w:World):
 (execOp a.eval (bare (.call {callee:= .value x,args:=xs.toArray,argTypes:=rB}) ty)).run P w= .ok (.enter f (vs++caps).toArray) w:=by
 have h1:=hx.1.eval ha
 have h2:=aQ.eval ha hx.2
 simp only[execOp,resolve,h1,Deferred.ofValue,Sem.run_bind,Sem.run_pure,Result.andThen_ok,invoke]
 have e:(#[]++xs.toArray.map a.eval++caps.toArray)=(vs++caps).toArray:=by simp[h2]
 rw[e];exact tJ.run
theorem Ev.call {f:FuncId}{xs:List Operand}{rB:Array TypeId}{vs:List Value}{ds:List dJ}(hc:de P f vs.toArray ds v)(tJ:aU P f)(hx:aQ F xs vs)[hd:mK ds H]:
 Ev P n F (Mm c H) (.call {callee:= .value (.func f),args:=xs.toArray,argTypes:=rB}) ty v:=by
 intro a w ha hw;rw[jm (caps:=[]) tJ (aQ.cons (aL.mk rfl) hx) ha w]
 simp only[List.append_nil,Oper.quietUpon,true_and]
 refine(Mm.call hc hw.kY).mono ?_;rintro e w' ⟨u,H',rfl,rfl,hm⟩;refine⟨rfl,?_⟩;obtain⟨ρ,hm⟩:=hm.out;exact Mm.mk ((hm.perm List.perm_append_comm).left)
theorem Ev.gA {f:FuncId}{xs:List Operand}{rB:Array TypeId}{vs:List Value}{ds:List dJ}(gL:¬c.dr)(hc:fG P f vs.toArray ds v)(tJ:aU P f)(hx:aQ F xs vs)[hd:mK ds H]:
 Ev P n F (Mm c H) (.call {callee:= .value (.func f),args:=xs.toArray,argTypes:=rB}) ty v:=by
 intro a w ha hw;rw[jm (caps:=[]) tJ (aQ.cons (aL.mk rfl) hx) ha w]
 simp only[List.append_nil,Oper.quietUpon,true_and]
 refine(Mm.Bl hc (fun h=>absurd h gL) hw.kY).mono ?_;rintro e w' ⟨u,H',rfl,rfl,hm⟩;refine⟨rfl,?_⟩;obtain⟨ρ,hm⟩:=hm.out;exact Mm.mk ((hm.perm List.perm_append_comm).left)
theorem Ev.cp {f:FuncId}{xs:List Operand}{rB:Array TypeId}{vs caps:List Value}{ds:List dJ}(hc:de P f (vs++caps).toArray ds v)(tJ:aU P f)(hf:aL F x (.func (.func f) #[] caps.toArray))(hx:aQ F xs vs)[hd:mK ds H]:
 Ev P n F (Mm c H) (.call {callee:= .value x,args:=xs.toArray,argTypes:=rB}) ty v:=by
 intro a w ha hw;rw[jm tJ (aQ.cons hf hx) ha w]
 simp only[Oper.quietUpon,true_and]
 refine(Mm.call hc hw.kY).mono ?_;rintro e w' ⟨u,H',rfl,rfl,hm⟩;refine⟨rfl,?_⟩;obtain⟨ρ,hm⟩:=hm.out;exact Mm.mk ((hm.perm List.perm_append_comm).left)
theorem iI {f:FuncId}{xs:List Operand}{rB:Array TypeId}{vs caps:List Value}(tJ:aU P f)(hx:aQ F (x::xs) (.func (.func f) #[] caps.toArray::vs)){a:Act}(ha:Has n a F)(w:World){K:Act→World→Prop}
 {dd:Option Tmp} {g:Option (Nat×Bool)}
 (hk:Calls P f (vs++caps).toArray w fun e w'=>∃v,e= .returned v∧K (a.put dd v) w'):
 ({dst:=dd,op:= .call {callee:= .value x,args:=xs.toArray,argTypes:=rB},type:=ty,pos:=pos,after:=after,guard:=g}:Oper).wp P a w K Q:=by
 unfold Oper.wp Oper.upon;rw[eh,jm tJ hx ha w]
 exact hk.mono fun e w' ⟨v,he,h⟩=>by subst he;exact h
theorem St.call {f:FuncId}{xs:List Operand}{rB:Array TypeId}{vs:List Value}{pre R:List bE}{post:Value→List bE→Prop}(hc:eI P f vs.toArray pre post)(tJ:aU P f)(hx:aQ F xs vs)(hd:Nat.ble (d+1) n=true)[tk:hR pre H R]
 (h:∀v H',post v H'→St n ((d,v)::F) (Mm c (H'++R)) (wpList P ops Q rest)):
 St n F (Mm c H) (wpList P ops Q ({dst:=some d,op:= .call {callee:= .value (.func f),args:=xs.toArray,argTypes:=rB},type:=ty,pos:=pos,after:=after,guard:=none}::rest)):=by
 intro a w ha hw;refine gK rfl (iI (caps:=[]) tJ (aQ.cons (aL.mk rfl) hx) ha w ?_)
 simp only[List.append_nil]
 refine(Mm.call hc (hw.take (L:=pre))).mono ?_;rintro e w' ⟨u,H',rfl,hp,hm⟩;exact⟨u,rfl,h u H' hp _ w' (ha.put (Nat.le_of_ble_eq_true hd) u) hm⟩
theorem St.ag {f:FuncId}{xs:List Operand}{rB:Array TypeId}{vs:List Value}{ds:List dJ}{post:Value→List bE→Prop}(hc:eI P f vs.toArray (ds.map aE) post)(tJ:aU P f)(hx:aQ F xs vs)(hd:Nat.ble (d+1) n=true)[Lh:mK ds H]
 (h:∀v H',post v H'→St n ((d,v)::F) (Mm c (H'++H)) (wpList P ops Q rest)):
 St n F (Mm c H) (wpList P ops Q ({dst:=some d,op:= .call {callee:= .value (.func f),args:=xs.toArray,argTypes:=rB},type:=ty,pos:=pos,after:=after,guard:=none}::rest)):=by
 intro a w ha hw;refine gK rfl (iI (caps:=[]) tJ (aQ.cons (aL.mk rfl) hx) ha w ?_)
 simp only[List.append_nil]
 refine(Mm.call hc (hw.kY (ds:=ds))).mono ?_;rintro e w' ⟨u,H',rfl,hp,hm⟩;exact⟨u,rfl,h u H' hp _ w' (ha.put (Nat.le_of_ble_eq_true hd) u) hm⟩
theorem St.kZ {f:FuncId}{xs:List Operand}{rB:Array TypeId}{vs:List Value}{ds:List dJ}{post:Value→List bE→Prop}(gL:¬c.dr)(hc:um P f vs.toArray (ds.map aE) post)(tJ:aU P f)(hx:aQ F xs vs)(hd:Nat.ble (d+1) n=true)[Lh:mK ds H]
 (h:∀v H',post v H'→St n ((d,v)::F) (Mm c (H'++H)) (wpList P ops Q rest)):
 St n F (Mm c H) (wpList P ops Q ({dst:=some d,op:= .call {callee:= .value (.func f),args:=xs.toArray,argTypes:=rB},type:=ty,pos:=pos,after:=after,guard:=none}::rest)):=by
 intro a w ha hw;refine gK rfl (iI (caps:=[]) tJ (aQ.cons (aL.mk rfl) hx) ha w ?_)
 simp only[List.append_nil]
 refine(Mm.Bl hc (fun h=>absurd h gL) (hw.kY (ds:=ds))).mono ?_;rintro e w' ⟨u,H',rfl,hp,hm⟩;exact⟨u,rfl,h u H' hp _ w' (ha.put (Nat.le_of_ble_eq_true hd) u) hm⟩
theorem St.cp {f:FuncId}{xs:List Operand}{rB:Array TypeId}{vs caps:List Value}{pre R:List bE}{post:Value→List bE→Prop}(hc:eI P f (vs++caps).toArray pre post)(tJ:aU P f)(hf:aL F x (.func (.func f) #[] caps.toArray))(hx:aQ F xs vs)(hd:Nat.ble (d+1) n=true)[tk:hR pre H R]
 (h:∀v H',post v H'→St n ((d,v)::F) (Mm c (H'++R)) (wpList P ops Q rest)):
 St n F (Mm c H) (wpList P ops Q ({dst:=some d,op:= .call {callee:= .value x,args:=xs.toArray,argTypes:=rB},type:=ty,pos:=pos,after:=after,guard:=none}::rest)):=by
 intro a w ha hw;refine gK rfl (iI tJ (aQ.cons hf hx) ha w ?_);refine(Mm.call hc (hw.take (L:=pre))).mono ?_;rintro e w' ⟨u,H',rfl,hp,hm⟩;exact⟨u,rfl,h u H' hp _ w' (ha.put (Nat.le_of_ble_eq_true hd) u) hm⟩
def cj (P:Program)(t:TypeId)(w:World):Result (Array (Nat×Nat)):=
 match P.underlying t with
 |some (.struct fs)=>(fs.mapM fun f=>(do pure (f.offset,←sizeOf f.type):Sem (Nat×Nat))).run P w
 | _ => .halt (.stuck "") w
theorem bP {Z C:Array Value}{pl:Array (Nat×Nat)}{parts:List (Nat×Value)}{w:World}(hz:(P.info? t).bind (fun i=>i.zero.map Value.cells)=some Z)(hp:cj P t w= .ok pl w)(hf:Instr.fill (pl[·]?) Z parts=some C):
 (Instr.build t parts.toArray).run P w= .ok (.agg C) w:=by
 obtain⟨i,hi,Rd⟩:=Option.bind_eq_some_iff.1 hz;obtain⟨zv,rA,rfl⟩:=Option.map_eq_some_iff.1 Rd;unfold cj at hp
 split at hp
 ·rename_i fs hu
  simp only[Instr.build,zeroValue,typeInfo,Sem.run_bind,run_program,Result.andThen_ok,hi,rA,Sem.run_pure,run_underlying hu,hp,hf]
 ·cases hp
end
def aG:Fr→Fr→Prop
 |F,F0=>Sub F0 F
theorem aG.nil {F:Fr}:aG F []:=trivial
theorem aG.cons {F F0:Fr}(k:Nat){v:Value}(h:look F k=some v)(h':aG F F0):aG F ((k,v)::F0):=⟨h,h'⟩
section
variable {P:Program}{n:Nat}{F F0:Fr}{A:World→Prop}{c:Ctx}{H R:List bE}{ty:TypeId}{x y z:Operand}{v:Value}{Q:Exit→Act→World→Prop}{ops:Array Oper}{rest:List Oper}
 {d:Nat} {pos:String} {after:Array Edge} {t e:TypeId}
def oV {ι:Type}(n:Nat)(G:ι→Fr→Fr)(F0:Fr)(φ:ι→Prop)(μ:ι→Nat)(c:Ctx)(Hf:ι→List bE)(k:Nat)(a:Act)(w:World):Prop:=
 ∃y,μ y<k∧Has n a (G y F0)∧φ y∧Mm c (Hf y) w
def Met {ι:Type}(n:Nat)(G:ι→Fr→Fr)(F0:Fr)(φ:ι→Prop)(c:Ctx)(Hf:ι→List bE)(a:Act)(w:World):Prop:=
 ∃y,Has n a (G y F0)∧φ y∧Mm c (Hf y) w
theorem St.I6 {ι:Type}{body:Code}(G:ι→Fr→Fr)(Hf:ι→List bE)(φ:ι→Prop)(μ:ι→Nat)(fO:ι)(WI:aG F F0)(h0:φ fO)(hF:Sub (G fO F0) F)(hH:∀w,Mm c H w→Mm c (Hf fO) w)
 (round:∀x,φ x→St n (G x F0) (Mm c (Hf x)) (body.wp P (Exit.then (oV n G F0 φ μ c Hf (μ x)) Q))):
 St n F (Mm c H) ((Code.loop body).wp P Q):=by
 refine St.loop (fun x=>G x F0) (fun x w=>φ x∧Mm c (Hf x) w) μ fO hF (fun w hw=>⟨h0,hH w hw⟩) fun x=> ?_
 exact St.and fun hx=>round x hx
theorem St.Bm {ι:Type}{G:ι→Fr→Fr}{Hf:ι→List bE}{φ:ι→Prop}{μ:ι→Nat}{k:Nat}(y:ι)(xJ:φ y)(hm:μ y<k)(hF:Sub (G y F0) F)(hA:∀w,Mm c H w→Mm c (Hf y) w):
 St n F (Mm c H) (oV n G F0 φ μ c Hf k):=
 fun _ w ha hw=>⟨y,hm,ha.sub hF,xJ,hA w hw⟩
theorem St.Li {ι:Type}{body:Code}(G:ι→Fr→Fr)(φ:ι→Prop)(μ:ι→Nat)(fO:ι)(hk:aG F F0)(h0:φ fO)(hF:Sub (G fO F0) F)
 (round:∀x,φ x→St n (G x F0) (Mm c H) (body.wp P (Exit.then (oV n G F0 φ μ c (fun _=>H) (μ x)) Q))):
 St n F (Mm c H) ((Code.loop body).wp P Q):=St.I6 G (fun _=>H) φ μ fO hk h0 hF (fun _ hw=>hw) round
theorem St.JU {ι:Type}{G:ι→Fr→Fr}{φ:ι→Prop}{μ:ι→Nat}{k:Nat}{H':List bE}(y:ι)(xJ:φ y)(hm:μ y<k)(hF:Sub (G y F0) F)(hA:∀w,Mm c H w→Mm c H' w):
 St n F (Mm c H) (oV n G F0 φ μ c (fun _=>H') k):=St.Bm y xJ hm hF hA
def tK {ι κ:Type}(n:Nat)(G:ι→κ→Fr→Fr)(F0:Fr)(φ:ι→κ→Prop)(μ:ι→κ→Nat)(c:Ctx)(Hf:ι→κ→List bE)(k:Nat)(a:Act)(w:World):Prop:=
 ∃y z,μ y z<k∧Has n a (G y z F0)∧φ y z∧Mm c (Hf y z) w
theorem St.JV {ι κ:Type}{body:Code}(G:ι→κ→Fr→Fr)(Hf:ι→κ→List bE)(φ:ι→κ→Prop)(μ:ι→κ→Nat)(fO:ι)(tL:κ)(WI:aG F F0)(h0:φ fO tL)(hF:Sub (G fO tL F0) F)(hH:∀w,Mm c H w→Mm c (Hf fO tL) w)
 (round:∀x z,φ x z→St n (G x z F0) (Mm c (Hf x z)) (body.wp P (Exit.then (tK n G F0 φ μ c Hf (μ x z)) Q))):
 St n F (Mm c H) ((Code.loop body).wp P Q):=by
 refine St.loop (ι:=ι×κ) (fun x=>G x.1 x.2 F0) (fun x w=>φ x.1 x.2∧Mm c (Hf x.1 x.2) w) (fun x=>μ x.1 x.2) (fO,tL) hF (fun w hw=>⟨h0,hH w hw⟩) fun x=> ?_
 refine St.and fun hx=>fun a w ha hw=>wp_mono (round x.1 x.2 hx a w ha hw) ?_
 intro ex a' w' hq
 cases ex with
 |normal=>obtain⟨y,z,h1,h2,h3,h4⟩:=hq;exact⟨(y,z),h1,h2,h3,h4⟩
 |exit id=>exact hq
 |goto l=>exact hq
 |ret=>exact hq
 |panic ch=>exact hq
 |outgrown=>exact hq
theorem St.zE {ι κ:Type}{G:ι→κ→Fr→Fr}{Hf:ι→κ→List bE}{φ:ι→κ→Prop}{μ:ι→κ→Nat}{k:Nat}(y:ι)(z:κ)(xJ:φ y z)(hm:μ y z<k)(hF:Sub (G y z F0) F)(hA:∀w,Mm c H w→Mm c (Hf y z) w):
 St n F (Mm c H) (tK n G F0 φ μ c Hf k):=
 fun _ w ha hw=>⟨y,z,hm,ha.sub hF,xJ,hA w hw⟩
theorem St.join {ι:Type}{p q:Code}(G:ι→Fr→Fr)(Hf:ι→List bE)(φ:ι→Prop)(WI:aG F F0)
 (h1:St n F (Mm c H) (p.wp P (Exit.then (Met n G F0 φ c Hf) Q))) (h2:∀y,φ y→St n (G y F0) (Mm c (Hf y)) (q.wp P Q)):
 St n F (Mm c H) ((Code.seq p q).wp P Q):=by
 intro a w ha hw;refine wp_seq (wp_mono (h1 a w ha hw) ?_);intro ex a' w' hq
 cases ex with
 |normal=>obtain⟨y,h3,h4,h5⟩:=hq;exact h2 y h4 a' w' h3 h5
 |exit id=>exact hq
 |goto l=>exact hq
 |ret=>exact hq
 |panic ch=>exact hq
 |outgrown=>exact hq
theorem St.met {ι:Type}{G:ι→Fr→Fr}{Hf:ι→List bE}{φ:ι→Prop}(y:ι)(xJ:φ y)(hF:Sub (G y F0) F)(hA:∀w,Mm c H w→Mm c (Hf y) w):
 St n F (Mm c H) (Met n G F0 φ c Hf):=
 fun _ w ha hw=>⟨y,ha.sub hF,xJ,hA w hw⟩
theorem St.wf {α:Type}{Rr:Rp α}{xs:List α}{T:Act→World→Prop}(v:Value)[hd:rm v H α Rr xs](h:(∀x∈xs,Rr.wf x)→xs.length≤9223372036854775807→St n F (Mm c H) T):St n F (Mm c H) T:=by
 intro a w ha hw;obtain⟨ρ,hm⟩:=hw.out;obtain⟨ad,cap,_,h2,h3,h4,_⟩:=hm.sl hd;exact h h4 (by simp only[maxLen]at h3;omega) a w ha hw
theorem St.ic {T:Act→World→Prop}(e:TypeId)(size:Nat)(h:St n F (Mm c (row (.slice none 0 0) e size 0 []::H)) T):St n F (Mm c H) T:=by
 refine h.pg fun w hw=> ?_
 obtain⟨ρ,hm⟩:=hw.out;exact Mm.mk (hm.AB rfl ⟨rfl,Nat.le_refl _⟩ rfl (Nat.le_refl _) (fun _ _=>rfl) (e6.2 (World.ownsRow_nil _ _ _ _)) (fun b hb=>by rw[eL]at hb;simp[Value.ownBlock]at hb))
theorem run_equalIn_bool (k:Nat){p q:Bool}{w:World}(ht:P.underlying t=some .bool):(Op.equalIn (k+1) t (.bool p) (.bool q)).run P w= .ok (p==q) w:=by
 simp only[Op.equalIn,Sem.run_bind,run_underlying ht,Result.andThen_ok,Sem.run_pure]
theorem run_equal_bool {p q:Bool}{w:World}(ht:P.underlying t=some .bool):(Op.equal t (.bool p) (.bool q)).run P w= .ok (p==q) w:=by
 have:=run_equalIn_bool (P:=P) (w:=w) 9999 (p:=p) (q:=q) ht
 unfold Op.equal Op.maxDepth;exact this
theorem Ev.Fg {p q:Bool}{u:TypeId}(hx:aL F x (.bool p))(hy:aL F y (.bool q))(ht:P.underlying t=some .bool):Ev P n F A (.binOp .eql t x y u) ty (.bool (p==q)):= .of_run fun a w ha _=>by
 simp only[execOp,hx.eval ha,hy.eval ha,eqGuard_at_bool,binOp,Sem.run_bind,Sem.run_pure,Result.andThen_ok,run_equal_bool ht]
theorem Ev.zF {p q:Bool}{u:TypeId}(hx:aL F x (.bool p))(hy:aL F y (.bool q))(ht:P.underlying t=some .bool):Ev P n F A (.binOp .neq t x y u) ty (.bool (!(p==q))):= .of_run fun a w ha _=>by
 simp only[execOp,hx.eval ha,hy.eval ha,eqGuard_at_bool,binOp,Sem.run_bind,Sem.run_pure,Result.andThen_ok,run_equal_bool ht]
section rows
variable {size m k:Nat}{cs:List Value}
theorem dt.row {H:List bE}{ρ:Ro}{w:World}(h:dt c H ρ w)(hr:tH v H e size m cs):w.ownsRow 0 e size v m cs:=e6.1 (h.ct _ hr.mem)
theorem Ev.gm {e':TypeId}[hr:tH v H e size m cs](hx:aL F x v)(ht:P.underlying t=some (.slice e')):
 Ev P n F (Mm c H) (.call {callee:= .builtin .len,args:= #[x],argTypes:= #[t]}) ty (iv m):= .of_run fun a w ha hw=>by
 obtain⟨ρ,hm⟩:=hw.out
 rcases(hm.row hr).2 with⟨rfl,rfl⟩|⟨g,cap,cur,rfl,_⟩
 ·simp[execOp,resolve,invoke,builtin,hx.eval ha,Builtin.len_,run_underlying ht,goInt]
 ·simp[execOp,resolve,invoke,builtin,hx.eval ha,Builtin.len_,run_underlying ht,goInt]
theorem Ev.dm {i:Int}{kd:IntKind}[hr:tH v H e size m cs](hx:aL F x v)(hy:aL F y (.int kd i))(ht:P.underlying t=some (.slice e))(hs:(P.info? e).map (·.size)=some size)
 (hi:i=k) (hk:k<m):Ev P n F (Mm c H) (.indexAddr t x y) ty (di v size k 0):= .of_run fun a w ha hw=>by
 obtain⟨ρ,hm⟩:=hw.out
 rcases(hm.row hr).2 with⟨rfl,rfl⟩|⟨g,cap,cur,rfl,_⟩
 ·omega
 ·obtain⟨inf,pB,fx⟩:=Option.map_eq_some_iff.1 hs
  subst hi
  simp[execOp,hx.eval ha,hy.eval ha,Instr.indexAt,asIntOf,run_underlying ht,sizeOf,typeInfo,pB,fx,hk,dk,Addr.add_lit]
theorem uw {w:World}(h:w.ownsRow 0 e size v m cs){k off:Nat}{u:Value}(hk:k<m)(hu:cs[k*size+off]?=some u):
 ∃b,di v size k off= .pointer (some ⟨b,k*size+off,none⟩)∧w.cell? ⟨b,k*size+off,none⟩=some u∧v.ownBlock=some b∧w.frozen? ⟨b,k*size+off,none⟩=false:=by
 obtain⟨hl,h2⟩:=h
 rcases h2 with⟨rfl,rfl⟩|⟨g,cap,cur,rfl,_,hg,xK,wk,jl,xL⟩
 ·omega
 ·refine⟨g,by rw[dk];simp,?_,rfl,by simp[World.frozen?,hg]⟩
  rw[bp hg];rw[←xL]at hu
  have iU:=(List.getElem?_eq_some_iff.1 hu).1
  rw[List.getElem?_take]at hu
  split at hu
  ·simpa using hu
  ·simp at hu
theorem Ev.jn {off:Nat}{dd:TypeDesc}{u:Value}[hr:tH v H e size m cs](hx:aL F x (di v size k off))(ht:P.underlying t=some dd)(pQ:(match dd with| .struct _| .array _ _=>False|_=>True))
 (hk:k<m) (hu:cs[k*size+off]?=some u):Ev P n F (Mm c H) (.load t x) ty u:= .of_run fun a w ha hw=>by
 obtain⟨ρ,hm⟩:=hw.out;obtain⟨b,h1,h2,_⟩:=uw (hm.row hr) hk hu;rw[h1]at hx
 simp[execOp,hx.eval ha,Instr.loadAt,Instr.sureAddr,eO ht pQ h2]
theorem Ev.Bn {off o i:Nat}{s:TypeId}[hr:tH v H e size m cs](hx:aL F x (di v size k off))(hk:k<m)(ho:ak P s i=some o):Ev P n F (Mm c H) (.fieldAddr s x i) ty (di v size k (off+o)):= .of_run fun a w ha hw=>by
 obtain⟨ρ,hm⟩:=hw.out
 rcases(hm.row hr).2 with⟨rfl,rfl⟩|⟨g,cap,cur,rfl,_⟩
 ·omega
 ·rw[dk]at hx
  simp[execOp,hx.eval ha,jI ho,dk,Addr.add_lit,Nat.add_assoc]
theorem St.eP {off:Nat}{u:Value}[tk:jH v H e size m cs R](hx:aL F x (di v size k off))(hy:aL F y u)(hs:(P.info? t).map (·.size)=some 1)(h1:u.oneCell'=true)
 (hk:k<m) (AE:off<size) (h:St n F (Mm c (row v e size m (cs.set (k*size+off) u)::R)) (wpList P ops Q rest)):
 St n F (Mm c H) (wpList P ops Q ({dst:=none,op:= .store t x y,type:=ty,pos:=pos,after:=after,guard:=none}::rest)):=by
 refine St.lT (K:=fun u' H'=>H'=row v e size m (cs.set (k*size+off) u)::R) ?_ ?_
 ·intro a w ρ ha hm
  have iT:=hm.perm tk.perm
  have hr:=e6.1 (iT.ct _ (List.mem_cons_self ..))
  have iU:k*size+off<cs.length:=by
   rw[hr.1]
   have:(k+1)*size≤m*size:=Nat.mul_le_mul_right _ hk
   rw[Nat.add_mul]at this;omega
  obtain⟨b,h2,h3,h4,h5⟩:=uw hr hk (List.getElem?_eq_getElem iU);rw[h2]at hx;obtain⟨i,hi,fx⟩:=Option.map_eq_some_iff.1 hs;refine⟨.skip,w.setCell ⟨b,k*size+off,none⟩ u,ρ,_,?_,⟨_,.inr ⟨rfl,rfl⟩,rfl⟩,?_⟩
  ·simp[execOp,hx.eval ha,hy.eval ha,Instr.storeAt,Instr.sureAddr,storeVar,sizeOf,typeInfo,hi,fx,aB h1,storeCells,run_store P w _ u _ h1,h3,h5,Addr.add_zero']
  ·refine iT.alter rfl ⟨rfl,Nat.le_refl _⟩ rfl (by simp) (fun j hj er=> ?_) (e6.2 ?_) (fun b' jC=>by rw[eL]at jC⊢;exact .inl jC)
   ·rw[eL,h4]at er
    simp only[World.setCell,Array.getElem?_modify]
    rw[if_neg (fun e=>er (by rw[e]))]
   ·obtain⟨hl,h6⟩:=hr
    refine⟨by rw[List.length_set];exact hl,?_⟩
    rcases h6 with⟨rfl,rfl⟩|⟨g,cap,cur,rfl,WJ,hg,xK,wk,jl,xL⟩
    ·omega
    ·simp only[Value.ownBlock,Option.some.injEq]at h4
     subst h4;refine .inr ⟨_,cap,_,rfl,WJ,kX hg,xK,wk,by simp[jl],?_⟩;rw[←xL,Array.toList_setIfInBounds,List.take_set]
 ·rintro _ _ rfl
  exact h
theorem mh {i:TypeInfo}{zv:Value}{ux:Nat}(hs:(P.info? e).map (·.size)=some size)(hz:(P.info? e).bind (·.zero)=some zv)(hb:(P.info? e).map (·.bytes)=some ux)(hi:P.info? e=some i):i.size=size∧i.zero=some zv∧i.bytes=ux:=by
 rw[hi]at hs hz hb;exact⟨by simpa using hs,by simpa using hz,by simpa using hb⟩
theorem m6 {w:World}{i:TypeInfo}{zv:Value}{ux:Nat}(t ty e:TypeId)(ht:P.underlying t=some (.slice e))(hi:P.info? e=some i)(hz:i.zero=some zv)(Lj:i.size=size)(YG:i.bytes=ux)(I7:zv.cells.size=size)(fx:0<size)
 (v:Value) (m:Nat) (cs:List Value) (tM:w.ownsRow 0 e size v m cs) (a:Addr) (k cc:Nat) (news:List Value) (hl:news.length=k*size) (oW:∀j u,news[j]?=some u→w.cell? (a.add j)=some u) (h1:∀u∈news,u.oneCell'=true)
 (FH:m+k≤maxLen) (ni:(m+k)*ux≤140737488355328):
 ∃v' w',(Builtin.append_ #[t,t] ty #[v,.slice (some a) k cc]).run P w= .ok v' w'∧w'.ownsRow 0 e size v' (m+k) (cs++news)∧w.grownBy w' v.ownBlock∧
  (v'= .slice none 0 0↔v= .slice none 0 0∧k=0)∧(∀b,v'.ownBlock=some b→v.ownBlock=some b∨w.heap.size≤b)∧w.drawn≤w'.drawn:=by
 subst Lj;subst YG;obtain⟨v',w',hr,h2,h3,h4⟩:=run_append_own (P:=P) w 0 t ty e i zv i.size i.bytes ht hi hz rfl rfl I7 fx v m cs tM a k cc news hl oW h1 FH ni (Nat.zero_le _);refine⟨v',w',hr,h2,h3,h4,?_⟩
 rcases tM.2 with⟨rfl,rfl⟩|⟨g,cap,cur,rfl,WK,hg,hnc,WL,jl,WM⟩
 ·obtain⟨v'',Hz,Bo,YH,_⟩:=run_append_own (P:=P) w w.heap.size t ty e i zv i.size i.bytes ht hi hz rfl rfl I7 fx (.slice none 0 0) 0 cs ⟨tM.1,.inl ⟨rfl,rfl⟩⟩ a k cc news hl oW h1 FH ni (Nat.le_refl _)
  rw[hr]at Bo
  simp only[Result.ok.injEq]at Bo
  obtain⟨rfl,rfl⟩:=Bo;refine⟨?_,?_⟩
  ·intro b hb
   rcases YH.2 with⟨rfl,_⟩|⟨g,cap,cur,rfl,WK,_⟩
   ·simp[Value.ownBlock]at hb
   ·simp only[Value.ownBlock,Option.some.injEq]at hb
    subst hb;exact .inr WK
  ·have YI:cs=[]:=by
    have:=tM.1
    simpa using this
   rcases Nat.eq_zero_or_pos k with rfl|hk
   ·have Qd:news=[]:=by simpa using hl
    subst Qd
    have JW:(Builtin.append_ #[t,t] ty #[.slice none 0 0,.slice (some a) 0 cc]).run P w= .ok (.slice none 0 0) w:=by
     simp[Builtin.append_,run_underlying ht,sizeOf,typeInfo,hi,Builtin.lenOf,Builtin.firstCells,loadCells,loadCellsFrom]
    rw[hr]at JW
    simp only[Result.ok.injEq]at JW
    rw[JW.2];exact Nat.le_refl _
   ·have JW:=run_append_nil (P:=P) w t ty e i zv ht hi hz a k cc news hl oW hk (by simp only[maxLen]at FH;omega) (by have:(0+k)*i.bytes=k*i.bytes:=by rw[Nat.zero_add]
                                                                                                                     omega)
    rw[hr]at JW
    simp only[Result.ok.injEq]at JW
    rw[JW.2];exact Nat.le_succ _
 ·by_cases m7:m+k≤cap
  ·have Rh:m*i.size+news.length≤cur.size:=by rw[hl,jl,←Nat.add_mul];exact Nat.mul_le_mul_right _ m7
   have Bo:=run_append_room (P:=P) w t ty e i ht hi g m cap cur hg a k cc news hl oW h1 m7 Rh
   rw[hr]at Bo
   simp only[Result.ok.injEq]at Bo
   obtain⟨rfl,rfl⟩:=Bo;exact⟨fun b hb=> .inl hb,Nat.le_refl _⟩
  ·have holds:∀j u,cs[j]?=some u→w.cell? ((⟨g,0,none⟩:Addr).add j)=some u:=tM.cells (g:=g) rfl
   have Bo:=run_append_grow (P:=P) w t ty e i zv ht hi hz ⟨g,0,none⟩ m cap cs tM.1 holds a k cc news hl oW (by omega) (by simp only[maxLen]at FH;omega) (growslice_fits (by omega) ni)
   rw[hr]at Bo
   simp only[Result.ok.injEq]at Bo
   obtain⟨rfl,rfl⟩:=Bo;refine⟨fun b hb=> ?_,Nat.le_succ _⟩
   simp only[Value.ownBlock,Option.some.injEq]at hb
   exact .inr (by omega)
theorem St.cT {v2:Value}{m2:Nat}{news:List Value}{R1:List bE}{zv:Value}{ux:Nat}[t2:jH v2 H e size m2 news R1][t1:jH v R1 e size m cs R]
 (hx:aL F x v) (hy:aL F y v2) (ht:P.underlying t=some (.slice e)) (hs:(P.info? e).map (·.size)=some size) (hz:(P.info? e).bind (·.zero)=some zv) (hb:(P.info? e).map (·.bytes)=some ux)
 (Fh:∀u∈news,u.oneCell'=true) (hlen:m+m2≤9223372036854775807) (m7:(m+m2)*ux≤140737488355328) (I7:zv.cells.size=size) (nh:Nat.ble 1 size=true) (er:Nat.ble 1 m2=true) (hd:Nat.ble (d+1) n=true)
 (h:∀v',(v'= .slice none 0 0↔v= .slice none 0 0∧m2=0)→St n ((d,v')::F) (Mm c (row v' e size (m+m2) (cs++news)::R)) (wpList P ops Q rest)):
 St n F (Mm c H) (wpList P ops Q ({dst:=some d,op:= .call {callee:= .builtin .append,args:= #[x,y],argTypes:= #[t,t]},type:=ty,pos:=pos,after:=after,guard:=none}::rest)):=by
 refine St.I1 (K:=fun v' H'=>(v'= .slice none 0 0↔v= .slice none 0 0∧m2=0)∧H'=row v' e size (m+m2) (cs++news)::R) ?_ hd ?_
 ·intro a w ρ ha hm
  have AF:=hm.perm t2.perm
  have FI:=e6.1 (AF.ct _ (List.mem_cons_self ..))
  have rn:=AF.drop.perm t1.perm
  have hr:=e6.1 (rn.ct _ (List.mem_cons_self ..))
  have Ri:=Nat.le_of_ble_eq_true er
  obtain⟨i,hi,fx⟩:=Option.map_eq_some_iff.1 hs;obtain⟨q1,q2,q3⟩:=mh hs hz hb hi
  rcases FI.2 with⟨_,rfl⟩|⟨g2,xM,Lk,rfl,_,Ll,xK,wk,Lm,Bp⟩
  ·omega
  ·obtain⟨v',w',rC,how,Bq,xN,Rj,gL⟩:=m6 (P:=P) (w:=w) t ty e ht hi q2 q1 q3 I7 (Nat.le_of_ble_eq_true nh) v m cs hr ⟨g2,0,none⟩ m2 xM news FI.1
    (fun j u hj=>by
     rw[Addr.add_lit,Nat.zero_add,bp Ll];rw[←Bp,List.getElem?_take]at hj
     split at hj
     ·simpa using hj
     ·simp at hj) Fh (by unfold maxLen;omega) m7
   refine⟨.value v',w',ρ,_,?_,⟨_,.inl rfl,xN,rfl⟩,?_⟩
   ·simp[execOp,resolve,invoke,builtin,hx.eval ha,hy.eval ha,rC]
   ·refine rn.alter Bq.os ⟨Bq.tape,gL⟩ Bq.output Bq.size (fun j hj er=> ?_) (e6.2 how) (fun b' jC=> ?_)
    ·rw[eL]at er;exact Bq.block j hj (fun e=>er e.symm)
    ·rw[eL]at jC⊢;exact Rj b' jC
 ·rintro _ _ ⟨h1,rfl⟩
  exact h _ h1
theorem pj {α:Type}(Rr:Rp α)(xs:List α):∀u∈rows Rr xs,u.oneCell'=true:=by
 intro u hu
 simp only[rows,List.mem_flatMap]at hu
 obtain⟨x,_,hx⟩:=hu;exact Rr.one x u hx
theorem St.gn {zv:Value}{ux:Nat}{i j:Int}{kl kc:IntKind}{m:Nat}(hx:aL F x (.int kl i))(hy:aL F y (.int kc j))(ht:P.underlying t=some (.slice e))(hs:(P.info? e).map (·.size)=some 1)(hz:(P.info? e).bind (·.zero)=some zv)(hb:(P.info? e).map (·.bytes)=some ux)
 (hm:i=m) (rn:j=m) (m7:ux*m≤281474976710656∧m≤9223372036854775807) (h1:zv.cells= #[zv]) (hd:Nat.ble (d+1) n=true)
 (h:∀b,St n ((d,.slice (some ⟨b,0,none⟩) m m)::F) (Mm c (row (.slice (some ⟨b,0,none⟩) m m) e 1 m (List.replicate m zv)::H)) (wpList P ops Q rest)):
 St n F (Mm c H) (wpList P ops Q ({dst:=some d,op:= .makeSlice t x y,type:=ty,pos:=pos,after:=after,guard:=none}::rest)):=by
 subst hm rn;refine St.I1 (K:=fun u H'=>∃b,u= .slice (some ⟨b,0,none⟩) m m∧H'=row (.slice (some ⟨b,0,none⟩) m m) e 1 m (List.replicate m zv)::H) ?_ hd ?_
 ·intro a w ρ ha tI
  obtain⟨i,hi,fx⟩:=Option.map_eq_some_iff.1 hs;obtain⟨q1,q2,q3⟩:=mh hs hz hb hi
  have rC:=run_make (P:=P) w t e i zv ht hi q2 kl kc m m (by omega) (by omega) (by rw[q3,←Int.natCast_mul];exact Int.ofNat_le.2 m7.1) (by omega)
  have xO:madeCells zv.cells (m*i.size)=(List.replicate m zv).toArray:=by
   rw[q1,h1]
   apply Array.ext
   ·simp[madeCells]
   ·intro k pQ I5
    simp[madeCells,Nat.mod_one]
  simp only[Int.toNat_natCast,xO]at rC
  refine⟨.value (.slice (some ⟨w.heap.size,0,none⟩) m m),w.alloc (.cells (List.replicate m zv).toArray e),ρ,_,?_,⟨_,.inl rfl,_,rfl,rfl⟩,?_⟩
  ·simp[execOp,hx.eval ha,hy.eval ha,rC]
  ·refine tI.AB rfl ⟨rfl,Nat.le_refl _⟩ rfl (by simp) (fun k hk=>RowKit.Below.heap_alloc w _ k hk) (e6.2 ⟨by simp,.inr ⟨w.heap.size,m,_,rfl,Nat.zero_le _,heap_alloc_new w _,Nat.le_refl _,by unfold maxLen;omega,by simp,by simp⟩⟩) ?_
   intro b hb;rw[eL]at hb;simp[Value.ownBlock]at hb;omega
 ·rintro _ _ ⟨b,rfl,rfl⟩
  exact h b
theorem dt.aM {α:Type}(Rr:Rp α)(xs:List α){H:List bE}{ρ:Ro}{w:World}(h:dt c (J.row v e Rr.size m cs::H) ρ w)(jl:cs=rows Rr xs)(hm:m=xs.length)(rD:∀x∈xs,Rr.wf x):Mm c (J.aE (J.sl Rr v xs)::H) w:=by
 subst jl hm
 have hr:=e6.1 (h.ct _ (List.mem_cons_self ..))
 rcases hr.2 with⟨rfl,h0⟩|⟨g,cap,cur,rfl,_,hg,xK,wk,jl,xL⟩
 ·have hx:xs=[]:=List.eq_nil_of_length_eq_zero h0
  subst hx;exact Mm.mk (h.drop.fact _ ⟨none,0,rfl,Nat.le_refl _,by unfold maxLen;omega,fun x hx=>by simp at hx,.inl rfl⟩)
 ·have xH:(J.row (Value.slice (some ⟨g,0,none⟩) xs.length cap) e Rr.size xs.length (rows Rr xs)).key=some g:=by rw[eL];rfl
  have tM:=h.own _ (List.mem_cons_self ..) g xH
  have JX:g<w.heap.size:=(Array.getElem?_eq_some_iff.1 hg).1
  have I4:=List.pairwise_cons.1 h.A7
  refine Mm.mk (ρ:=fun k=>if k=g then some (.cells cur e (0,0))else ρ k) ?_
  have hle:Ro.le ρ (fun k=>if k=g then some (.cells cur e (0,0))else ρ k):=by
   intro k o hk
   by_cases e1:k=g
   ·subst e1;rw[tM.1]at hk;cases hk
   ·simp only[e1,if_false];exact hk
  refine dt.fact ⟨h.os,h.tape,h.output,h.size,h.wi,?_,Ro.le_trans h.le hle,?_,?_,?_,I4.2⟩ _ ?_
  ·intro k o hk
   by_cases e1:k=g
   ·subst e1;simp only[if_true,Option.some.injEq]at hk;subst hk;exact hg
   ·simp only[e1,if_false]at hk;exact h.fits k o hk
  ·intro k hk hM
   by_cases e1:k=g
   ·subst e1
    rcases tM.2 with h2|h2
    ·omega
    ·exact absurd h2 hM
   ·simp only[e1,if_false];exact h.new k hk hM
  ·intro E hE
   exact E.loc hle (fun _ _=>rfl) (h.ct E (List.mem_cons_of_mem _ hE))
  ·intro E hE b hb
   have h1:=h.own E (List.mem_cons_of_mem _ hE) b hb
   refine⟨?_,h1.2⟩
   by_cases e1:b=g
   ·subst e1;exact absurd hb (I4.1 E hE _ xH)
   ·simp only[e1,if_false];exact h1.1
  ·refine⟨some ⟨g,0,none⟩,cap,rfl,xK,wk,rD,?_⟩
   refine .inr ⟨g,0,cur,e,(0,0),rfl,by simp,fun j u hj=> ?_⟩;rw[←xL,List.getElem?_take]at hj
   split at hj
   ·simpa using hj
   ·simp at hj
theorem St.aM {α:Type}{T:Act→World→Prop}(v:Value)(Rr:Rp α)(xs:List α)[tk:jH v H e Rr.size m cs R](jl:cs=rows Rr xs)(hm:m=xs.length)(rD:∀x∈xs,Rr.wf x)
 (h:St n F (Mm c (aE (sl Rr v xs)::R)) T):St n F (Mm c H) T:=
 h.pg fun _ hw=>let⟨_,k⟩:=hw.out;(k.perm tk.perm).aM Rr xs jl hm rD
end rows
end
section
variable {P:Program}{ops:Array Oper}{C:World→Prop}{Q:Exit→Act→World→Prop}
def tN (k:Nat)(listed:Array Bool)(N:Nat):Prop:=listed.size=N∧∀j,j<N→listed[j]?=some (decide (j<k))
theorem tN.getD {k N:Nat}{listed:Array Bool}(h:tN k listed N)(j:Nat)(d:Bool)(hj:j<N):listed.getD j d=decide (j<k):=by
 rw[Array.getD_eq_getD_getElem?,h.2 j hj];rfl
theorem tN.out {k N:Nat}{listed:Array Bool}(h:tN k listed N)(j:Nat)(d:Bool)(hj:N≤j):listed.getD j d=d:=by
 rw[Array.getD_eq_getD_getElem?,Array.getElem?_eq_none (by rw[h.1];exact hj)];rfl
theorem tN.set {k N:Nat}{listed:Array Bool}(h:tN k listed N):tN (k+1) (listed.setIfInBounds k true) N:=by
 refine⟨by simp[h.1],fun j hj=> ?_⟩;rw[Array.getElem?_setIfInBounds]
 by_cases e:k=j
 ·subst e;simp[h.1,hj]
 ·rw[if_neg e,h.2 j hj];congr 1
  rw[Bool.eq_iff_iff];simp only[decide_eq_true_eq];omega
theorem rE {uy:Array Oper}{listed:Array Bool}(hs:listed.size=uy.size)(hE:∀(i:Nat) (o:Oper),uy[i]?=some o→∀e∈o.after,e.on<i)(hu:∃i,i<uy.size∧listed.getD i true=false):Region.ready .any uy listed≠ []:=by
 obtain⟨i,hi⟩:=exists_least hu;obtain⟨⟨Qe,Qf⟩,Rk⟩:=hi;intro h0
 have:i∈Region.ready .any uy listed:=by
  refine mem_ready.2 ⟨Qf,uy[i],Array.getElem?_eq_getElem Qe,fun e he _=> ?_⟩
  have h1:=hE i _ (Array.getElem?_eq_getElem Qe) e he
  have iU:e.on<listed.size:=by omega
  cases hl:listed.getD e.on true with
  |false=>
   have:=Rk e.on ⟨by omega,hl⟩
   omega
  |true=>rw[Array.getD_eq_getD_getElem?,Array.getElem?_eq_getElem iU]at hl⊢;exact hl
 rw[h0]at this
 cases this
theorem St.any {n:Nat}{F:Fr}{A:World→Prop}{id:Nat}{l:List Oper}(hm:P.follows .mixedOrders=true)(hA:Bj A)
 (h:St n F A (wpAny P .any l.toArray Q l.length (Array.replicate l.length false))):St n F A ((Code.region id l.toArray true).wp P Q):=
 fun a w ha hw=>wp_region_any hm (by simpa using h a _ ha (hA w hw))
theorem St.one {n:Nat}{F:Fr}{A:World→Prop}{i:Nat}{o:Oper}{K:Act→World→Prop}(ho:ops[i]?=some o)(h:St n F A (wpList P ops (Exit.then K Q) [o])):St n F A (wpOp P ops Q i K):=by
 intro a w ha hw
 have h1:=h a w ha hw
 unfold wpOp;rw[ho]
 simp only[wpList]at h1
 simp only
 split
 ·rename_i nc
  simp only[nc,if_true]at h1
  rcases h1 with h1|⟨h1,a0,w0,h2⟩
  ·refine .inl ?_
   unfold Oper.wp at h1⊢
   generalize (execOp a.eval o).run P w=r at h1⊢
   cases r with
   |ok nx w'=>
    cases nx<;>simp only[Oper.upon]at h1⊢ <;>
     first
      |exact h1
      |exact Calls.mono h1 (fun e Hz he=>by cases e<;>exact he)
      |exact Rows.mono h1 (fun _ _ he=>he)
   |halt x w'=>cases x<;>simp only[Oper.upon]at h1⊢ <;>exact h1
  ·exact .inr ⟨h1,a0,w0,h2⟩
 ·rename_i nc
  simp only[nc]at h1
  exact h1
theorem Sq.tail {n:Nat}{F:Fr}{A:World→Prop}{uy:Array Oper}{tl:List Oper}(h:St n F A (wpList P ops Q tl)):Sq n F (wpQuiet P uy A (fun a'=>∀w',A w'→wpList P ops Q tl a' w') []):=fun a ha w hw=>h a w ha hw
end
def rp (b:Nat)(v:Value):dJ where
 f ρ:=∃C e fr,ρ b=some (.cells C e fr)∧C[0]?=some v
 mono ρ gS h:=by
  rintro ⟨C,e,fr,h1,h2⟩;exact⟨C,e,fr,h _ _ h1,h2⟩
class mi (b:Nat)(H:List bE)(v:outParam Value):Prop where
 mem:aE (rp b v)∈H
instance (priority:=high) mi.here (b:Nat)(v:Value)(H:List bE):mi b (aE (rp b v)::H) v:=⟨List.mem_cons_self ..⟩
instance mi.there (b:Nat)(v:Value)(E:bE)(H:List bE)[h:mi b H v]:mi b (E::H) v:=⟨List.mem_cons_of_mem _ h.mem⟩
def all (w:World):Ro:=fun k=>w.heap[k]?
theorem dt.JY {c:Ctx}{H:List bE}{ρ:Ro}{w:World}(h:dt c H ρ w):Ro.le ρ (J.all w):=fun k o hk=>h.fits k o hk
def eU (c:Ctx)(H:List bE)(ds:List dJ):Prop:=∀ρ w,dt c H ρ w→∀d∈ds,d.f (J.all w)
section
variable {c:Ctx}{H R:List bE}{ds:List dJ}{v:Value}
theorem eU.nil:eU c H []:=fun _ _ _ _ h=>by simp at h
theorem eU.aE {d:dJ}(h:eU c H ds)[hd:iE d H]:eU c H (d::ds):=fun ρ w hm d' jk=>by
 rcases List.mem_cons.1 jk with rfl|jk
 ·exact d'.mono _ _ hm.JY (hm.aE hd)
 ·exact h ρ w hm d' jk
theorem rr {α:Type}{Rr:Rp α}{xs:List α}{e:TypeId}{m:Nat}{cs:List Value}{w:World}(h:w.ownsRow 0 e Rr.size v m cs)(jl:cs=rows Rr xs)(hm:m=xs.length)(rD:∀x∈xs,Rr.wf x):(sl Rr v xs).f (J.all w):=by
 subst jl hm
 rcases h.2 with⟨rfl,h0⟩|⟨g,cap,cur,rfl,_,hg,xK,wk,jl,xL⟩
 ·have hx:xs=[]:=List.eq_nil_of_length_eq_zero h0
  subst hx;exact⟨none,0,rfl,Nat.le_refl _,by unfold maxLen;omega,fun x hx=>by simp at hx,.inl rfl⟩
 ·refine⟨some ⟨g,0,none⟩,cap,rfl,xK,wk,rD,.inr ⟨g,0,cur,e,(0,0),rfl,hg,fun j u hj=> ?_⟩⟩
  rw[←xL,List.getElem?_take]at hj
  split at hj
  ·simpa using hj
  ·simp at hj
theorem eU.row {α:Type}{Rr:Rp α}{xs:List α}{e:TypeId}{size m:Nat}{cs:List Value}(h:eU c H ds)[hr:tH v H e size m cs](fx:size=Rr.size)(jl:cs=rows Rr xs)(hm:m=xs.length)(rD:∀x∈xs,Rr.wf x):eU c H (sl Rr v xs::ds):=fun ρ w tI d' jk=>by
 subst fx
 rcases List.mem_cons.1 jk with rfl|jk
 ·exact rr (tI.row hr) jl hm rD
 ·exact h ρ w tI d' jk
theorem eU.aZ {b:Nat}{u:Value}{e:TypeId}{fr:Nat×Nat}{L:List Value}(h:eU c H ds)[hb:c4 b H (.cells (u::L).toArray e fr)]:eU c H (rp b u::ds):=fun ρ w tI d' jk=>by
 rcases List.mem_cons.1 jk with rfl|jk
 ·exact⟨_,e,fr,eK.1 (tI.ct _ hb.mem),by simp⟩
 ·exact h ρ w tI d' jk
def ka (H:List bE):Prop:=∀E∈H,∀ρ gS w,E.ok ρ w→E.ok gS w
theorem ka.nil:ka []:=fun _ h=>by simp at h
theorem ka.row {H:List bE}{e:TypeId}{size m:Nat}{cs:List Value}(h:ka H):ka (J.row v e size m cs::H):=fun E hE ρ gS w k=>by
 rcases List.mem_cons.1 hE with rfl|hE
 ·exact e6.2 (e6.1 k)
 ·exact h E hE ρ gS w k
theorem ka.aZ {H:List bE}{b:Nat}{o:Obj}(h:ka H):ka (J.aZ b o::H):=fun E hE ρ gS w k=>by
 rcases List.mem_cons.1 hE with rfl|hE
 ·exact eK.2 (eK.1 k)
 ·exact h E hE ρ gS w k
theorem gM (ds:List dJ)(b:Nat):¬jB (ds.map aE) b:=by
 rintro ⟨E,hE,hb⟩;obtain⟨d,_,rfl⟩:=List.mem_map.1 hE
 rw[jx]at hb;cases hb
theorem Mm.Ln {dr:Prop}{P:Program}{f:FuncId}{args:Array Value}{post:Value→List bE→Prop}(hc:A8 dr P f args (ds.map J.aE) post)(gL:c.dr→dr)(hl:eU c H ds)(hs:∀v H',post v H'→ka H'){w:World}(hm:Mm c H w):
 Calls P f args w fun e w'=>∃v H',e= .returned v∧post v H'∧Mm c (H'++H) w':=by
 obtain⟨ρ,hm⟩:=hm.out
 have st:Start (ds.map J.aE) (J.all w) w:=
  ⟨rfl,⟨rfl,fun _=>Nat.le_refl _⟩,rfl,Nat.le_refl _,fun _ _ _=>rfl,fun _ _ h=>h,Ro.le_refl _,fun _ _ _=>rfl,fun E hE=>by
   obtain⟨d,hd,rfl⟩:=List.mem_map.1 hE;exact cw.2 (hl ρ w hm d hd),
   (fun E hE b hb=>by
    obtain⟨d,hd,rfl⟩:=List.mem_map.1 hE
    rw[jx]at hb;cases hb),
   by
    refine List.pairwise_map.2 (List.Pairwise.imp_of_mem (R:=fun _ _=>True) ?_ (List.pairwise_of_forall fun _ _=>trivial));intro d d' _ _ _ b hb
    rw[jx]at hb;cases hb⟩
 refine(hc w (J.all w) st).mono ?_;rintro e w' ⟨v,H',he,hp,iT⟩;obtain⟨gS,iT⟩:=iT.out;refine⟨v,H',he,hp,?_⟩
 have hold:∀k,k<w.heap.size→w'.heap[k]?=w.heap[k]?:=fun k hk=>iT.wi k hk (gM ds k)
 have Fj:∀E∈H',∀b,E.key=some b→w.heap.size≤b:=fun E hE b hb=>by
  rcases(iT.own E hE b hb).2 with h1|h1
  ·exact h1
  ·exact absurd h1 (gM ds b)
 refine Mm.mk (ρ:=ρ) ?_
 have h0:dt c ([]++H) ρ w:=hm
 refine dt.step h0 ⟨iT.os,⟨iT.tape.1,fun q=>iT.tape.2 (gL q)⟩,iT.output,iT.size,fun k hk _=>hold k hk,fun k o hk=> ?_,Ro.le_refl _,fun _ _ _=>rfl,fun E hE=>hs v H' hp E hE gS ρ w' (iT.ct E hE),?_,iT.A7⟩
 ·rw[hold k (hm.I0 hk)];exact hm.fits k o hk
 ·intro E hE b hb
  refine⟨?_,.inl (Fj E hE b hb)⟩
  cases hr:ρ b with
  |none=>rfl
  |some o=>have h1:=hm.I0 hr;have h2:=Fj E hE b hb;omega
theorem Mm.Rl {P:Program}{f:FuncId}{args:Array Value}{post:Value→List bE→Prop}(hc:eI P f args (ds.map J.aE) post)(hl:eU c H ds)(hs:∀v H',post v H'→ka H'){w:World}(hm:Mm c H w):
 Calls P f args w fun e w'=>∃v H',e= .returned v∧post v H'∧Mm c (H'++H) w':=Mm.Ln hc.gen (fun _=>trivial) hl hs hm
end
section
variable {P:Program}{n:Nat}{F:Fr}{A:World→Prop}{c:Ctx}{H R:List bE}{ty:TypeId}{x y z:Operand}{v:Value}{Q:Exit→Act→World→Prop}{ops:Array Oper}{rest:List Oper}
 {d:Nat} {pos:String} {after:Array Edge} {t e:TypeId}
theorem Ev.Br {b:Nat}{u:Value}{dd:TypeDesc}[hc:mi b H u](hx:aL F x (.pointer (some ⟨b,0,none⟩)))(ht:P.underlying t=some dd)(pQ:(match dd with| .struct _| .array _ _=>False|_=>True)):
 Ev P n F (Mm c H) (.load t x) ty u:= .of_run fun a w ha hw=>by
 obtain⟨ρ,hm⟩:=hw.out;obtain⟨C,e,fr,h1,h2⟩:=cw.1 (hm.ct _ hc.mem)
 simp[execOp,hx.eval ha,Instr.loadAt,Instr.sureAddr,eO ht pQ ((bp (hm.fits _ _ h1)).trans h2)]
theorem Ev.jV {f:FuncId}{xs:List Operand}{rB:Array TypeId}{vs caps:List Value}{ds:List dJ}(hc:de P f (vs++caps).toArray ds v)(tJ:aU P f)(hf:aL F x (.func (.func f) #[] caps.toArray))(hx:aQ F xs vs)(hl:eU c H ds):
 Ev P n F (Mm c H) (.call {callee:= .value x,args:=xs.toArray,argTypes:=rB}) ty v:=by
 intro a w ha hw;rw[jm tJ (aQ.cons hf hx) ha w]
 simp only[Oper.quietUpon,true_and]
 refine(Mm.Rl (post:=fun u H'=>u=v∧H'=[]) (fun w ρ hs=>(hc w ρ hs).mono fun e w' ⟨u,H',h1,h2,h3⟩=>⟨u,[],h1,⟨h2,rfl⟩,?_⟩) hl (fun _ _ h=>by rw[h.2];exact ka.nil) hw).mono ?_
 ·obtain⟨gS,h3⟩:=h3.out
  exact Mm.mk (dt.left (L:=[]) h3)
 ·rintro e w' ⟨u,H',rfl,⟨rfl,rfl⟩,hm⟩
  exact⟨rfl,hm⟩
@[irreducible] def Fk (v:Value)(size l h:Nat):Value:=
 match v with
 | .slice a _ cap=> .slice (if cap=l then a else a.map (·.add (l*size))) (h-l) (cap-l)
 |_=>undef
theorem iV (a:Option Addr)(m cap size l h:Nat):Fk (.slice a m cap) size l h= .slice (if cap=l then a else a.map (·.add (l*size))) (h-l) (cap-l):=by unfold Fk;rfl
theorem Fl {α:Type}{Rr:Rp α}{xs:List α}{l h:Nat}{ρ:Ro}(hs:(sl Rr v xs).f ρ)(hl:l≤h)(hh:h≤xs.length):(sl Rr (Fk v Rr.size l h) ((xs.drop l).take (h-l))).f ρ:=by
 obtain⟨a,cap,rfl,h2,h3,h4,h5⟩:=hs
 have hlen:((xs.drop l).take (h-l)).length=h-l:=by simp;omega
 refine⟨if cap=l then a else a.map (·.add (l*Rr.size)),cap-l,by rw[iV,hlen],by omega,by omega,fun x hx=>h4 x (List.mem_of_mem_drop (List.mem_of_mem_take hx)),?_⟩
 by_cases h0:(xs.drop l).take (h-l)=[]
 ·exact .inl h0
 ·right
  have iU:l<h:=by
   rcases Nat.lt_or_ge l h with h6|h6
   ·exact h6
   ·exact absurd (by rw[show h-l=0 by omega];rfl) h0
  have I8:cap≠l:=by omega
  rcases h5 with rfl|⟨b,off,C,e,fr,rfl,h6,h7⟩
  ·simp at hh;omega
  ·refine⟨b,off+l*Rr.size,C,e,fr,by rw[if_neg I8];simp[Addr.add_lit],h6,fun j u hj=> ?_⟩
   rw[Nat.add_assoc]
   apply h7
   -- the cells of the part are the cells of the whole,from there on
   have key:∀(ys:List α) (l:Nat),l≤ys.length→rows Rr ys=rows Rr (ys.take l)++rows Rr (ys.drop l):=fun ys l _=>by
    unfold rows;rw[←List.flatMap_append,List.take_append_drop]
   have k1:=key xs l (by omega)
   have k2:=key (xs.drop l) (h-l) (by simp;omega)
   have e1:(xs.take l).length=l:=by simp;omega
   rw[k1,List.getElem?_append_right (by rw[fo,e1];omega),fo,k2];rw[e1,show l*Rr.size+j-l*Rr.size=j by omega]
   have Rm:=(List.getElem?_eq_some_iff.1 hj).1
   rw[List.getElem?_append_left Rm];exact hj
theorem St.part {α:Type}{Rr:Rp α}{xs:List α}{T:Act→World→Prop}(v:Value)(l h:Nat)[hd:rm v H α Rr xs](hl:l≤h)(hh:h≤xs.length)
 (k:St n F (Mm c (aE (sl Rr (Fk v Rr.size l h) ((xs.drop l).take (h-l)))::H)) T):St n F (Mm c H) T:=
 St.fact _ (fun _ _ hm=>Fl (hm.sl hd) hl hh) k
theorem St.Lo {size m:Nat}{cs Lp:List Value}{T:Act→World→Prop}(v:Value)[tk:jH v H e size m cs R](h:cs=Lp)(k:St n F (Mm c (row v e size m Lp::R)) T):St n F (Mm c H) T:=by
 subst h
 exact k.pg fun _ hw=>let⟨_,q⟩:=hw.out;Mm.mk (q.perm tk.perm)
theorem St.bI {size m m':Nat}{cs Lp:List Value}{T:Act→World→Prop}(v:Value)[tk:jH v H e size m cs R](hm:m=m')(h:cs=Lp)(k:St n F (Mm c (row v e size m' Lp::R)) T):St n F (Mm c H) T:=by
 subst h hm
 exact k.pg fun _ hw=>let⟨_,q⟩:=hw.out;Mm.mk (q.perm tk.perm)
theorem ry {α:Type}{Rr:Rp α}(h1:Rr.size=1){u:Value}{x:α}(hx:Rr.cells x=[u]):∀(xs:List α) (k:Nat),(rows Rr xs).set k u=rows Rr (xs.set k x)
 | [],_=>by simp[rows]
 |y::xs,0=>by
  have:=Rr.len y
  rw[h1]at this
  obtain⟨v,hv⟩:∃v,Rr.cells y=[v]:=by
   match hc:Rr.cells y,this with
   | [v],_=>exact⟨v,rfl⟩
  simp[rows,hv,hx]
 |y::xs,k+1=>by
  have:=Rr.len y
  rw[h1]at this
  obtain⟨v,hv⟩:∃v,Rr.cells y=[v]:=by
   match hc:Rr.cells y,this with
   | [v],_=>exact⟨v,rfl⟩
  have ih:=ry h1 hx xs k
  simp only[rows,List.flatMap_cons,hv,List.singleton_append,List.set_cons_succ]at ih⊢
  rw[ih]
theorem dA {α:Type}(Rr:Rp α)(xs:List α)(x:α):rows Rr (xs++ [x])=rows Rr xs++Rr.cells x:=by simp[rows]
end
instance (priority:=high) hR.self (L:List bE):hR L L []:=⟨by simp⟩
open Classical in
noncomputable def pk (L:List bE) (w:World):Ro:=fun k=>if jB L k then none else w.heap[k]?
def jJ (c:Ctx)(L R:List bE)(ds:List dJ):Prop:=∀ρ w,dt c (L++R) ρ w→∀d∈ds,d.f (pk L w)
section
variable {c:Ctx}{L R:List bE}{ds:List dJ}{v:Value}
theorem dt.JZ {ρ:Ro}{w:World}(h:dt c (L++R) ρ w):Ro.le ρ (pk L w):=fun k o hk=>by
 unfold pk;rw[if_neg]
 ·exact h.fits k o hk
 ·rintro ⟨E,hE,hb⟩
  have:=(h.own E (List.mem_append_left _ hE) k hb).1
  rw[hk]at this;cases this
theorem rz {ρ:Ro}{w:World}(h:dt c (L++R) ρ w){E:bE}(hE:E∈R){b:Nat}(hb:E.key=some b):pk L w b=w.heap[b]?:=by
 unfold pk;rw[if_neg];rintro ⟨E',wj,jC⟩;exact(List.pairwise_append.1 h.A7).2.2 E' wj E hE b jC hb
theorem jJ.nil:jJ c L R []:=fun _ _ _ _ h=>by simp at h
theorem jJ.aE {d:dJ}(h:jJ c L R ds)[hd:iE d R]:jJ c L R (d::ds):=fun ρ w hm d' jk=>by
 rcases List.mem_cons.1 jk with rfl|jk
 ·exact d'.mono _ _ hm.JZ (cw.1 (hm.ct _ (List.mem_append_right _ hd.mem)))
 ·exact h ρ w hm d' jk
theorem jJ.row {α:Type}{Rr:Rp α}{xs:List α}{e:TypeId}{size m:Nat}{cs:List Value}(h:jJ c L R ds)[hr:tH v R e size m cs](fx:size=Rr.size)(jl:cs=rows Rr xs)(hm:m=xs.length)(rD:∀x∈xs,Rr.wf x):jJ c L R (sl Rr v xs::ds):=fun ρ w tI d' jk=>by
 subst fx
 rcases List.mem_cons.1 jk with rfl|jk
 ·have Rn:=e6.1 (tI.ct _ (List.mem_append_right _ hr.mem))
  obtain⟨a,cap,h1,h2,h3,h4,h5⟩:=rr (w:=w) Rn jl hm rD;refine⟨a,cap,h1,h2,h3,h4,?_⟩
  rcases h5 with h5|⟨b,off,C,e',fr,rfl,h6,h7⟩
  ·exact .inl h5
  ·refine .inr ⟨b,off,C,e',fr,rfl,?_,h7⟩
   rw[rz tI hr.mem (b:=b) (by rw[eL,h1];rfl)];exact h6
 ·exact h ρ w tI d' jk
theorem jJ.aZ {b:Nat}{u:Value}{e:TypeId}{fr:Nat×Nat}{l:List Value}(h:jJ c L R ds)[hb:c4 b R (.cells (u::l).toArray e fr)]:jJ c L R (rp b u::ds):=fun ρ w tI d' jk=>by
 rcases List.mem_cons.1 jk with rfl|jk
 ·refine⟨(u::l).toArray,e,fr,?_,rfl⟩
  rw[rz tI hb.mem (b:=b) (gT _ _)];exact eK.1 (tI.ct _ (List.mem_append_right _ hb.mem))
 ·exact h ρ w tI d' jk
end
section
variable {P:Program}{n:Nat}{F:Fr}{A:World→Prop}{c:Ctx}{H R:List bE}{ty:TypeId}{x y z:Operand}{v:Value}{Q:Exit→Act→World→Prop}{ops:Array Oper}{rest:List Oper}
 {d:Nat} {pos:String} {after:Array Edge} {t e:TypeId}
theorem St.split {T:Act→World→Prop}(k:Nat)(b:Bool)(hk:look F k=some (.bool b))(ht:b=true→St n ((k,.bool true)::F) A T)(hf:b=false→St n ((k,.bool false)::F) A T):St n F A T:=by
 intro a w ha hw
 have key:∀u,u=Value.bool b→Has n a ((k,u)::F):=fun u hu=>⟨ha.size,ha.defers,fun t v hv=>by
  simp only[look]at hv
  cases hb:Nat.beq t k with
  |true=>
   have e:t=k:=Nat.eq_of_beq_eq_true hb
   subst e
   simp only[hb,cond_true,Option.some.injEq]at hv
   subst hv
   rw[hu];exact ha.slot _ _ hk
  |false=>simp only[hb,cond_false]at hv;exact ha.slot _ _ hv⟩
 cases hb:b with
 |true=>exact ht hb a w (key _ (by rw[hb])) hw
 |false=>exact hf hb a w (key _ (by rw[hb])) hw
theorem St.oX {j dj:Nat}{want:Bool}{op:Op}(hj:(ops[j]?).bind (·.dst)=some dj)(hl:look F dj=some (.bool (!want)))(hd:Nat.ble (d+1) n=true)
 (h:St n ((d,undef)::F) A (wpList P ops Q rest)):St n F A (wpList P ops Q ({dst:=some d,op:=op,type:=ty,pos:=pos,after:=after,guard:=some (j,want)}::rest)):=by
 intro a w ha hw
 have nc:=jj (l:=ops) (c:=false) (o:={dst:=some d,op:=op,type:=ty,pos:=pos,after:=after,guard:=some (j,want)}) rfl hj (ha.slot _ _ hl) ⟨(fun h=>by cases h),fun _=> .inl rfl⟩
 simp only[wpList,nc]
 exact h _ w (ha.put (Nat.le_of_ble_eq_true hd) undef) hw
theorem St.bh {j dj:Nat}{want:Bool}{op:Op}{dd:Option Tmp}(hj:(ops[j]?).bind (·.dst)=some dj)(hl:look F dj=some (.bool want))
 (h:St n F A (wpList P ops Q ({dst:=dd,op:=op,type:=ty,pos:=pos,after:=after,guard:=none}::rest))):
 St n F A (wpList P ops Q ({dst:=dd,op:=op,type:=ty,pos:=pos,after:=after,guard:=some (j,want)}::rest)):=by
 intro a w ha hw
 have nc:=jj (l:=ops) (c:=true) (o:={dst:=dd,op:=op,type:=ty,pos:=pos,after:=after,guard:=some (j,want)}) rfl hj (ha.slot _ _ hl) ⟨fun _=>rfl,(fun h=>by cases h)⟩
 have h1:=h a w ha hw
 simp only[wpList,nc,if_true]
 simp only[wpList,Region.wanted,if_true]at h1
 rcases h1 with h1|⟨h1,h2⟩
 ·left
  unfold Oper.wp Oper.upon at h1⊢;rw[eh]at h1⊢;exact h1
 ·right
  refine⟨?_,h2⟩;unfold Oper.asks at h1⊢;rw[eh]at h1⊢;exact h1
section rows
variable {size m:Nat}{cs:List Value}
theorem St.e7 {T:Act→World→Prop}(v:Value)[hr:tH v H e size m cs](h:v.oneCell'=true→cs.length=m*size→St n F (Mm c H) T):St n F (Mm c H) T:=by
 intro a w ha hw;obtain⟨ρ,hm⟩:=hw.out
 have h1:=hm.row hr
 refine h ?_ h1.1 a w ha hw
 rcases h1.2 with⟨rfl,_⟩|⟨g,cap,cur,rfl,_⟩<;>rfl
theorem Ev.xP {j:Int}{h:Nat}{kj:IntKind}{hi:Operand}[hr:tH v H e size m cs](hx:aL F x v)(Lq:aL F hi (.int kj j))(ht:P.underlying t=some (.slice e))(hs:(P.info? e).map (·.size)=some size)
 (hj:j=h) (hh:h≤m):Ev P n F (Mm c H) (.slice t x none (some hi) none) ty (Fk v size 0 h):= .of_run fun a w ha hw=>by
 obtain⟨ρ,hm⟩:=hw.out;obtain⟨inf,pB,fx⟩:=Option.map_eq_some_iff.1 hs;subst hj
 rcases(hm.row hr).2 with⟨rfl,rfl⟩|⟨g,cap,cur,rfl,_,_,xK,_⟩
 ·have b1:(0:Int)≤(h:Int)∧(h:Int)≤((0:Nat):Int):=by omega
  simp only[execOp,hx.eval ha,Lq.eval ha,Option.map_some,Option.map_none,Instr.sliceAt,Instr.slice,Instr.sliceBounds,Instr.sliceBound,asIntOf,Sem.run_bind,run_underlying ht,Result.andThen_ok,Sem.run_pure,b1,and_self,if_true,Int.toNat_natCast,sizeOf,typeInfo,run_program,pB,fx,iV]
 ·have b1:(0:Int)≤(h:Int)∧(h:Int)≤(cap:Int):=by omega
  simp only[execOp,hx.eval ha,Lq.eval ha,Option.map_some,Option.map_none,Instr.sliceAt,Instr.slice,Instr.sliceBounds,Instr.sliceBound,asIntOf,Sem.run_bind,run_underlying ht,Result.andThen_ok,Sem.run_pure,b1,and_self,if_true,Int.toNat_natCast,sizeOf,typeInfo,run_program,pB,fx,iV]
theorem St.Ja {T:Act→World→Prop}(v:Value)(h:Nat)[tk:jH v H e size m cs R](hh:h≤m)(k:St n F (Mm c (row (Fk v size 0 h) e size h (cs.take (h*size))::R)) T):St n F (Mm c H) T:=by
 refine k.pg fun w hw=> ?_
 obtain⟨ρ,hm⟩:=hw.out
 have hm:=hm.perm tk.perm
 have hr:=e6.1 (hm.ct _ (List.mem_cons_self ..))
 have hlen:(cs.take (h*size)).length=h*size:=by
  rw[List.length_take,hr.1];exact Nat.min_eq_left (Nat.mul_le_mul_right _ hh)
 rcases hr.2 with⟨rfl,rfl⟩|⟨g,cap,cur,rfl,h0,hg,xK,wk,jl,xL⟩
 ·have:h=0:=by omega
  subst this;refine Mm.mk (hm.alter rfl ⟨rfl,Nat.le_refl _⟩ rfl (Nat.le_refl _) (fun _ _ _=>rfl) (e6.2 ⟨hlen,.inl ⟨?_,rfl⟩⟩) (fun b hb=> ?_))
  ·rw[iV];simp
  ·rw[eL,iV]at hb;simp[Value.ownBlock]at hb
 ·have e1:Fk (.slice (some ⟨g,0,none⟩) m cap) size 0 h= .slice (some ⟨g,0,none⟩) h cap:=by
   rw[iV]
   simp[Addr.add_zero']
  rw[e1];refine Mm.mk (hm.alter rfl ⟨rfl,Nat.le_refl _⟩ rfl (Nat.le_refl _) (fun _ _ _=>rfl) (e6.2 ⟨hlen,.inr ⟨g,cap,cur,rfl,h0,hg,by omega,wk,jl,?_⟩⟩) (fun b hb=> ?_))
  ·rw[←xL,List.take_take,Nat.min_eq_left (Nat.mul_le_mul_right _ hh)]
  ·rw[eL]at hb⊢;exact .inl hb
end rows
end
theorem kb {P:Program}{t:TypeId}{xs:Array Value}{k:Nat}{v:Value}{w:World}(h:(match P.underlying t with|some (.struct _)|some (.array _ _)|none=>false|_=>true)=true)(hv:xs[k]?=some v):(part t xs k).run P w= .ok v w:=by
 unfold part
 cases hu:P.underlying t with
 |none=>rw[hu]at h;cases h
 |some d=>
  rw[hu]at h
  cases d<;>simp_all [isAgg,run_underlying hu]
theorem tP (d:Nat)(xs ys:Array Value)(P:Program)(w:World):(Op.eqFields d xs ys []).run P w= .ok true w:=rfl
theorem gY {d : Nat} {xs ys : Array Value} {P : Program} {f : Field} {fs : List Field} {r s : Bool} {a b : Value} (hn : (f.name != "_") = true) (ha : ∀ w, (part f.type xs f.offset).run P w = .ok a w) (hb : ∀ w, (part f.type ys f.offset).run P w = .ok b w) (hr : ∀ w, (Op.equalIn d f.type a b).run P w = .ok r w) (hs : ∀ w, (Op.eqFields d xs ys fs).run P w = .ok s w) (w : World) :
 (Op.eqFields d xs ys (f::fs)).run P w= .ok (r&&s) w:=by
 have hn : f.name ≠ "_" := by simpa using hn
 simp only[Op.eqFields,if_pos hn,Sem.run_bind,ha,hb,hr,Result.andThen_ok]
 cases r with
 |true=>simp only[Bool.not_true,Bool.false_eq_true,if_false,hs,Bool.true_and]
 |false=>simp
class App (A B:List bE)(C:outParam (List bE)):Prop where
 eq:A++B=C
instance App.nil (B:List bE):App [] B B:=⟨rfl⟩
instance App.cons (E:bE)(A B C:List bE)[h:App A B C]:App (E::A) B (E::C):=⟨by rw[List.cons_append,h.eq]⟩
section
variable {P:Program}{n:Nat}{F:Fr}{A:World→Prop}{c:Ctx}{H R C:List bE}{ty:TypeId}{x y z:Operand}{u v:Value}{T:Act→World→Prop}
theorem St.known (k:Nat)(b u:Bool)(hk:look F k=some (.bool b))(hb:b=u)(h:St n ((k,.bool u)::F) A T):St n F A T:=by
 subst hb
 cases b with
 |true=>exact St.split k true hk (fun _=>h) (fun h=>by cases h)
 |false=>exact St.split k false hk (fun h=>by cases h) (fun _=>h)
theorem Ev.s5 {t u':TypeId}{xs ys:Array Value}{r:Bool}(hx:aL F x (.agg xs))(hy:aL F y (.agg ys))(hg:P.eqGuardType P.depth t=false)(h:∀w,(Op.equalIn 10000 t (.agg xs) (.agg ys)).run P w= .ok r w):Ev P n F A (.binOp .eql t x y u') ty (.bool r):= .of_run fun a w ha _=>by
 simp only[execOp,hx.eval ha,hy.eval ha,Sem.run_bind,run_eqGuard_agg w .eql t x y xs ys hg,run_eql_struct,h,Result.andThen_ok,Sem.run_pure]
theorem Ev.nj {t u':TypeId}{xs ys:Array Value}{r:Bool}(hx:aL F x (.agg xs))(hy:aL F y (.agg ys))(hg:P.eqGuardType P.depth t=false)(h:∀w,(Op.equalIn 10000 t (.agg xs) (.agg ys)).run P w= .ok r w):Ev P n F A (.binOp .neq t x y u') ty (.bool (!r)):= .of_run fun a w ha _=>by
 simp only[execOp,hx.eval ha,hy.eval ha,Sem.run_bind,run_eqGuard_agg w .neq t x y xs ys hg,run_neq_struct,h,Result.andThen_ok,Sem.run_pure]
theorem Ev.eQ {p:Bool}(hx:aL F x (.bool p))(hp:p=true)(hy:aL F y v):Ev P n F A (.pick x y z) ty v:= .of_run fun a w ha _=>by
 subst hp;simp only[execOp,hx.eval ha,hy.eval ha];simp[asBool]
theorem Ev.uz {p:Bool}(hx:aL F x (.bool p))(hp:p=false)(hz:aL F z v):Ev P n F A (.pick x y z) ty v:= .of_run fun a w ha _=>by
 subst hp;simp only[execOp,hx.eval ha,hz.eval ha];simp[asBool]
end
abbrev dQ:={v:Value//v.oneCell'=true}
def mL {α:Type}(Rr:Rp α)(vs:List dQ)(fy:List (List α)):dJ where
 f ρ:=∀(i:Nat) (u:dQ) (l:List α),vs[i]?=some u→fy[i]?=some l→(sl Rr u.1 l).f ρ
 mono ρ gS h k i u l h1 h2:=(sl Rr u.1 l).mono _ _ h (k i u l h1 h2)
class I9 (vs:List dQ)(H:List bE)(α:outParam Type)(Rr:outParam (Rp α))(fy:outParam (List (List α))):Prop where
 mem:aE (mL Rr vs fy)∈H
instance (priority:=high) I9.here {α:Type}(vs:List dQ)(Rr:Rp α)(fy:List (List α))(H:List bE):I9 vs (aE (mL Rr vs fy)::H) α Rr fy:=⟨List.mem_cons_self ..⟩
instance I9.there {α:Type}(vs:List dQ)(Rr:Rp α)(fy:List (List α))(E:bE)(H:List bE)[h:I9 vs H α Rr fy]:I9 vs (E::H) α Rr fy:=⟨List.mem_cons_of_mem _ h.mem⟩
section
variable {n:Nat}{F:Fr}{c:Ctx}{H R:List bE}{T:Act→World→Prop}{e:TypeId}
theorem St.mL {α:Type}{Rr:Rp α}{vs:List dQ}{fy:List (List α)}(k:Nat){u:dQ}{l:List α}[hd:I9 vs H α Rr fy](hu:vs[k]?=some u)(hl:fy[k]?=some l)(h:St n F (Mm c (aE (sl Rr u.1 l)::H)) T):St n F (Mm c H) T:=
 St.fact _ (fun _ _ hm=>cw.1 (hm.ct _ hd.mem) k u l hu hl) h
theorem xQ {α:Type}(Rr:Rp α)(ρ:Ro):(sl Rr (.slice none 0 0) []).f ρ:=⟨none,0,rfl,Nat.le_refl _,by unfold maxLen;omega,(fun x hx=>by cases hx),.inl rfl⟩
end
end Go.J
namespace Go.J
open Go Go.ChangeShapes Go.WideShapes Go.ChangeAt Go.RowKit Go.Deep
theorem A8.below {dr:Prop}{P:Program}{f:FuncId}{args:Array Value}{ds:List dJ}{v:Value}{W:World}(h:A8 dr P f args (ds.map J.aE) fun u _=>u=v)(hd:∀d∈ds,d.f (J.all W)):Calls P f args W fun e W'=>e= .returned v∧Below W.heap.size W W':=by
 have st:Start (ds.map J.aE) (J.all W) W:=
  ⟨rfl,⟨rfl,fun _=>Nat.le_refl _⟩,rfl,Nat.le_refl _,fun _ _ _=>rfl,fun _ _ h=>h,Ro.le_refl _,fun _ _ _=>rfl,fun E hE=>by
   obtain⟨d,jk,rfl⟩:=List.mem_map.1 hE;exact cw.2 (hd d jk),
   (fun E hE b hb=>by
    obtain⟨d,hd,rfl⟩:=List.mem_map.1 hE
    rw[jx]at hb;cases hb),
   by
    refine List.pairwise_map.2 (List.Pairwise.imp_of_mem (R:=fun _ _=>True) ?_ (List.pairwise_of_forall fun _ _=>trivial));intro d d' _ _ _ b hb
    rw[jx]at hb;cases hb⟩
 refine(h W (J.all W) st).mono ?_;rintro e w' ⟨u,H',rfl,rfl,hm⟩;obtain⟨gS,hm⟩:=hm.out;exact⟨rfl,hm.os,hm.tape.1,hm.output,hm.size,fun k hk=>hm.wi k hk (gM ds k)⟩
theorem fG.below {P:Program}{f:FuncId}{args:Array Value}{ds:List dJ}{v:Value}{W:World}(h:fG P f args ds v)(hd:∀d∈ds,d.f (J.all W)):Calls P f args W fun e W'=>e= .returned v∧Below W.heap.size W W':=A8.below (dr:=False) h hd
section
variable {H:Type}{enc:TypeId×Value→H}{P:Program}{W:World}{α:Type}
theorem ei {a:Addr}{v:Value}(h:W.cell? a=some v):a.spot=none∧∃C e fr,W.heap[a.block]?=some (.cells C e fr)∧C[a.off]?=some v:=by
 refine⟨World.cell?_spot h,?_⟩;unfold World.cell? at h
 split at h
 ·rename_i C e fr hb
  split at h
  ·cases h
  ·exact⟨C,e,fr,hb,h⟩
 ·cases h
theorem tQ {R:Rp α}:∀(xs:List α) (j:Nat) (u:Value),(rows R xs)[j]?=some u→∃i k x,xs[i]?=some x∧k<R.size∧j=i*R.size+k∧(R.cells x)[k]?=some u
 | [],j,u,h=>by simp[rows]at h
 |x::xs,j,u,h=>by
  simp only[rows,List.flatMap_cons]at h
  by_cases hj:j<R.size
  ·rw[List.getElem?_append_left (by rw[R.len];exact hj)]at h
   exact⟨0,j,x,rfl,hj,by omega,h⟩
  ·rw[List.getElem?_append_right (by rw[R.len];omega),R.len]at h
   obtain⟨i,k,y,h1,h2,h3,h4⟩:=tQ xs (j-R.size) u h;exact⟨i+1,k,y,by simpa using h1,h2,by rw[Nat.add_mul,Nat.one_mul];omega,h4⟩
abbrev mj (l:List Nat):Bool:=l.all (· ≤reachBytes)
theorem tR {e:TypeId}:∀{ds:List (DataW H)} {x:DataW H},mj (DataW.weightsAll P e ds)=true→x∈ds→mj (x.weights P e)=true
 | [],_,_,h=>by cases h
 |d::ds,x,h,hx=>by
  simp only[mj,DataW.weightsAll,List.all_append,Bool.and_eq_true]at h
  rcases List.mem_cons.1 hx with rfl|hx
  ·exact h.1
  ·exact tR h.2 hx
theorem ml:∀{ts:List TypeId} {ds:List (DataW H)} {j:Nat} {t:TypeId} {d:DataW H},mj (DataW.weightsEach P ts ds)=true→ts[j]?=some t→ds[j]?=some d→mj (d.weights P t)=true
 | [],_,_,_,_,_,h,_=>by simp at h
 |_::_,[],_,_,_,_,_,h=>by simp at h
 |t::ts,d::ds,0,_,_,h,h1,h2=>by
  simp only[List.getElem?_cons_zero,Option.some.injEq]at h1 h2
  subst h1 h2
  simp only[mj,DataW.weightsEach,List.all_append,Bool.and_eq_true]at h
  exact h.1
 |t::ts,d::ds,j+1,_,_,h,h1,h2=>by
  simp only[mj,DataW.weightsEach,List.all_append,Bool.and_eq_true]at h
  exact ml (j:=j) h.2 (by simpa using h1) (by simpa using h2)
theorem AG {t e:TypeId}{es sp:List (DataW H)}(ht:P.underlying t=some (.slice e))(h:mj ((DataW.slice es sp).weights P t)=true){x:DataW H}(hx:x∈es∨x∈sp):mj (x.weights P e)=true:=by
 simp only[mj,DataW.weights,ht,List.all_cons,List.all_append,Bool.and_eq_true]at h
 rcases hx with hx|hx
 ·exact tR h.2.1 hx
 ·exact tR h.2.2 hx
theorem wf_i64 {n:Int}(h:(Lit.int .i64 n).wf=true):aj n:=by
 have e1:IntKind.i64.min= -9223372036854775808:=rfl
 have e2:IntKind.i64.max=9223372036854775807:=rfl
 simpa[Lit.wf,e1,e2,aj]using h
theorem Bs (s:ByteArray):Value.string s=sv s.data.toList:=by
 cases s;rfl
end
end Go.J
namespace Go.J
open Go
def Es (P:Program)(n:Nat)(F:Fr)(op:Op)(ty:TypeId)(v:Value):Prop:=∀a w,Has n a F→(execOp a.eval (bare op ty)).run P w= .ok (.value v) w
def NP (Q:Exit→Act→World→Prop):Prop:=∀c a w,¬Q (.panic c) a w
theorem NP.then {K:Act→World→Prop}{Q:Exit→Act→World→Prop}(h:NP Q):NP (Exit.then K Q):=fun c a w k=>h c a w k
theorem NP.inBlock {id:Nat}{Q:Exit→Act→World→Prop}(h:NP Q):NP (Exit.inBlock id Q):=fun c a w k=>h c a w k
section
variable {P:Program}{ops:Array Oper}{Q:Exit→Act→World→Prop}
theorem wpOp_put {j:Nat}{oi oj:Oper}{v:Value}(hj:ops[j]?=some oj)(Rq:oi.apart ops oj=true)
 (Rs:∀cs b,oi.op≠ .select cs b) (Lr:∀cs b,oj.op≠ .select cs b) (hQ:NP Q) {K:Act→World→Prop} {a:Act} {w:World}
 (hy:∀w,(execOp a.eval oi).run P w= .ok (.value v) w) (h:wpOp P ops Q j K (a.put oi.dst v) w):
 wpOp P ops Q j (fun a' w'=>(∀w,(execOp a'.eval oi).run P w= .ok (.value v) w)∧K (a'.put oi.dst v) w') a w:=by
 obtain⟨h1,h2,h3⟩:=Oper.apart_spec Rq
 have mJ:∀u,∀w,(execOp (a.put oj.dst u).eval oi).run P w= .ok (.value v) w:=fun u w=>by
  rw[execOp_put (ops:=ops) oi Rs a oj.dst u h3];exact hy w
 have put_defers:∀(d:Deferred) (u:Value),({a with defers:=d::a.defers}:Act).put oj.dst u={(a.put oj.dst u)with defers:=d::a.defers}:=fun d u=>by
  cases oj.dst<;>rfl
 unfold wpOp at*
 simp only[hj]at*
 rw[wanted_put oj a oi.dst v h1]at h
 split
 ·rename_i hw
  simp only[hw,if_true]at h
  rcases h with h|⟨h,hl⟩
  ·left
   unfold Oper.wp at*;rw[execOp_put oj Lr a oi.dst v h1]at h
   generalize (execOp a.eval oj).run P w=r at*
   cases r with
   |ok nx w'=>
    cases nx<;>simp only[Oper.upon]at h⊢
    case value u=>exact⟨mJ u,by rw[←Act.put_comm a v u h2];exact h⟩
    case skip=>exact⟨mJ _,by rw[←Act.put_comm a v undef h2];exact h⟩
    case defer d=>
     refine⟨fun w=> ?_,?_⟩
     ·rw[put_defers];exact mJ undef w
     ·have e:({(a.put oi.dst v)with defers:=d::(a.put oi.dst v).defers}:Act).put oj.dst undef=(({a with defers:=d::a.defers}:Act).put oj.dst undef).put oi.dst v:=by
       have:=Act.put_comm ({a with defers:=d::a.defers}:Act) v undef h2
       rw[←this]
       cases oi.dst<;>rfl
      rw[←e];exact h
    case enter f args=>
     refine Calls.mono h fun e Hz he=> ?_
     cases e with
     |returned u=>exact⟨mJ u,by rw[←Act.put_comm a v u h2];exact he⟩
     |panicked c=>exact(hQ _ _ _ he).elim
     |outgrown=>exact he
    case row WN args=>exact Rows.mono h fun u Hz he=>⟨mJ u,by rw[←Act.put_comm a v u h2];exact he⟩
    all_goals exact h
   |halt x w'=>
    cases x<;>simp only[Oper.upon]at h⊢
    all_goals first|exact(hQ _ _ _ h).elim|exact h
  ·right
   refine⟨?_,hl⟩;unfold Oper.asks at*;rw[execOp_put oj Lr a oi.dst v h1]at h;exact h
 ·rename_i hw
  simp only[hw]at h
  exact⟨mJ _,by rw[←Act.put_comm a v undef h2];exact h⟩
theorem wpOp_mono {j:Nat}{K K':Act→World→Prop}{a:Act}{w:World}(h:∀a w,K a w→K' a w)(hh:wpOp P ops Q j K a w):wpOp P ops Q j K' a w:=by
 unfold wpOp at*
 split
 ·rename_i ho;simp only[ho]at hh;exact h _ _ hh
 ·rename_i o ho
  simp only[ho]at hh
  split
  ·rename_i hw;simp only[hw,if_true]at hh;exact hh.imp (Oper.wp_mono h) id
  ·rename_i hw;simp only[hw]at hh;exact h _ _ hh
theorem wpAny_first {md:Region.Mode}{i:Nat}{oi:Oper}{v:Value}(hi:ops[i]?=some oi)(hg:oi.guard=none)(hQ:NP Q)(Bt:∀(j:Nat) (o:Oper) cs b,ops[j]?=some o→o.op≠ .select cs b):
 ∀(fuel:Nat) (listed:Array Bool) (a:Act) (w:World),
  (∀j oj,ops[j]?=some oj→j≠i→listed.getD j true=false→(∀e∈oj.after,Region.binds md e=true→e.on≠i)→oi.apart ops oj=true)→
  i∈Region.ready md ops listed→(∀w,(execOp a.eval oi).run P w= .ok (.value v) w)→
  wpAny P md ops Q fuel (listed.setIfInBounds i true) (a.put oi.dst v) w→wpAny P md ops Q (fuel+1) listed a w:=by
 have self:∀{K:Act→World→Prop} {a:Act} {w:World},(∀w,(execOp a.eval oi).run P w= .ok (.value v) w)→K (a.put oi.dst v) w→wpOp P ops Q i K a w:=by
  intro K a w hy hK;unfold wpOp
  simp only[hi,Region.wanted,hg,if_true]
  left
  unfold Oper.wp;rw[hy w];exact hK
 intro fuel
 induction fuel with
 |zero=>
  intro listed a w _ hr hy H;refine⟨fun h=>(by rw[h]at hr;cases hr),fun j hj=> ?_⟩
  by_cases tS:j=i
  ·subst tS;exact self hy H
  ·have:=ready_mono hj tS
   rw[H.1]at this
   cases this
 |succ fuel ih=>
  intro listed a w vA hr hy H;refine⟨fun h=>(by rw[h]at hr;cases hr),fun j hj=> ?_⟩
  by_cases tS:j=i
  ·subst tS;exact self hy H
  ·have h1:=H.2 j (ready_mono hj tS)
   obtain⟨Bu,oj,Jb,ej⟩:=mem_ready.1 hj
   have Jc:∀e∈oj.after,Region.binds md e=true→e.on≠i:=fun e he hb heq=>by
    have h1:=ej e he hb
    have h0:=(mem_ready.1 hr).1
    rw[heq]at h1
    rcases Nat.lt_or_ge i listed.size with h'|h'
    ·simp[h']at h0 h1;rw[h0]at h1;cases h1
    ·simp[Array.getElem?_eq_none h']at h1
   have h2:=wpOp_put Jb (vA j oj Jb tS Bu Jc) (fun cs b=>Bt i oi cs b hi) (fun cs b=>Bt j oj cs b Jb) hQ hy h1
   have xR:∀k ok,ops[k]?=some ok→k≠i→(listed.setIfInBounds j true).getD k true=false→
    (∀e∈ok.after,Region.binds md e=true→e.on≠i)→oi.apart ops ok=true:=fun k ok hk Qg Fm wm=>by
    refine vA k ok hk Qg ?_ wm
    by_cases Ls:j=k
    ·subst Ls;exact Bu
    ·rw[getD_set_ne true Ls]at Fm;exact Fm
   refine wpOp_mono (fun a' w' h3=>ih (listed.setIfInBounds j true) a' w' xR (ready_mono hr (Ne.symm tS)) h3.1 ?_) h2;rw[Array.setIfInBounds_comm _ _ tS];exact h3.2
theorem St.defer {n:Nat}{F:Fr}{A:World→Prop}{f d:Nat}{listed:Array Bool}{op:Op}{ty:TypeId}{pos:String}{after:Array Edge}{v:Value}(i:Nat)
 (hQ:NP Q) (hs:Region.noSelect ops=true) (hi:ops[i]?=some {dst:=some d,op:=op,type:=ty,pos:=pos,after:=after,guard:=none}) (jw:Es P n F op ty v)
 (hr:((Region.ready .any ops listed).contains i&&Region.free .any ops listed i)=true) (hd:Nat.ble (d+1) n=true)
 (h:St n ((d,v)::F) A (wpAny P .any ops Q f (listed.setIfInBounds i true))):St n F A (wpAny P .any ops Q (f+1) listed):=by
 intro a w ha hw
 simp only[Bool.and_eq_true]at hr
 refine wpAny_first hi rfl hQ (Region.noSelect_spec hs) f listed a w (Region.free_spec hi hr.2) (by simpa using hr.1) (fun w'=> ?_) (h _ w (ha.put (Nat.le_of_ble_eq_true hd) v) hw);rw[eh];exact jw a w' ha
end
section
variable {P:Program}{n:Nat}{F:Fr}{c:Ctx}{H:List bE}{ty:TypeId}{x y:Operand}{v:Value}{t e:TypeId}
theorem NP.body {fn:Func}{R:Value→List bE→World→Prop}:NP (bodyPost P fn fun e w'=>∃v H',e= .returned v∧R v H' w'):=fun c a w h=>by
 obtain⟨_,_,_,h1,_⟩:=h
 cases h1
theorem Es.extract {vs:List Value}{i:Nat}(hx:aL F x (.tuple vs.toArray))(hi:vs[i]?=some v):Es P n F (.extract x i) ty v:=fun a w ha=>by
 simp[execOp,hx.eval ha,Instr.extract,hi]
theorem St.vB {T:Act→World→Prop}{size m:Nat}{cs:List Value}(v:Value)[hr:tH v H e size m cs](hm:0<m)(h:∀b cap,v= .slice (some ⟨b,0,none⟩) m cap→St n F (Mm c H) T):St n F (Mm c H) T:=by
 intro a w ha hw;obtain⟨ρ,iT⟩:=hw.out
 rcases(iT.row hr).2 with⟨rfl,rfl⟩|⟨g,cap,cur,h1,_⟩
 ·omega
 ·exact h g cap h1 a w ha hw
end
theorem St.slot {n:Nat}{F:Fr}{A:World→Prop}{T:Act→World→Prop}{v:Value}(k:Nat)(v':Value)(hk:look F k=some v)(h:v=v')(hT:St n ((k,v')::F) A T):St n F A T:=by
 subst h
 refine fun a w ha hw=>hT a w ⟨ha.size,ha.defers,fun t u hu=> ?_⟩ hw
 simp only[look]at hu
 cases hb:Nat.beq t k with
 |true=>
  have e:=Nat.eq_of_beq_eq_true hb
  subst e
  simp only[hb,cond_true,Option.some.injEq]at hu
  subst hu;exact ha.slot _ _ hk
 |false=>
  simp only[hb,cond_false]at hu
  exact ha.slot _ _ hu
section
variable {ι:Type}{P:Program}{C:ι→World→Prop}{ops:Array Oper}{Q:Exit→Act→World→Prop}
def WR (P:Program)(C:ι→World→Prop)(ops:Array Oper)(Q:Exit→Act→World→Prop):Nat→Array Bool→Act→ι→Prop
 |0,listed,a,r=>Region.ready .any ops listed=[]∧∀w,C r w→Q .normal a w
 |fuel+1,listed,a,r=>(Region.ready .any ops listed=[]→∀w,C r w→Q .normal a w)∧
  ∀i∈Region.ready .any ops listed,∀w,C r w→wpOp P ops Q i (fun a' w'=>∃r',C r' w'∧WR P C ops Q fuel (listed.setIfInBounds i true) a' r') a w
theorem WR.any:∀(fuel:Nat) (listed:Array Bool) (a:Act) (r:ι) (w:World),C r w→WR P C ops Q fuel listed a r→wpAny P .any ops Q fuel listed a w
 |0,_,_,_,_,hw,h=>⟨h.1,h.2 _ hw⟩
 |fuel+1,_,_,_,_,hw,h=>⟨fun h0=>h.1 h0 _ hw,fun i hi=>wpOp_mono (fun a' w' ⟨r',hr,hk⟩=>WR.any fuel _ a' r' w' hr hk) (h.2 i hi _ hw)⟩
def YS (P:Program)(C:ι→World→Prop)(ops:Array Oper)(o:Oper)(v:Value)(a:Act):Prop:=
 (Region.wanted o (yielded ops a.tmps)=true∧∀r w,C r w→o.quietAt P a (C r) w v)∨(Region.wanted o (yielded ops a.tmps)=false∧v=undef)
theorem YS.of_same {o:Oper}{v:Value}{a a':Act}(hy:YS P C ops o v a)(he:execOp a'.eval o=execOp a.eval o)
 (hw:Region.wanted o (yielded ops a'.tmps)=Region.wanted o (yielded ops a.tmps)):YS P C ops o v a':=by
 unfold YS Oper.quietAt at*;rw[he,hw];exact hy
theorem YS.self {i:Nat}{o:Oper}{v:Value}{a:Act}(hi:ops[i]?=some o)(hy:YS P C ops o v a){K:Act→World→Prop}{r:ι}{w:World}(hw:C r w)(h:∀w',C r w'→K (a.put o.dst v) w'):wpOp P ops Q i K a w:=by
 have h1:YieldsIn P ops (C r) o v a:=hy.imp (fun⟨h1,h2⟩=>⟨h1,h2 r⟩) id
 exact wpOp_of_qOp hw (K:=fun a'=>a'=a.put o.dst v) (fun a' w' ui e=>by rw[e];exact h w' ui) (h1.qOp hi rfl)
theorem AH {j:Nat}{oi oj:Oper}{v:Value}(hj:ops[j]?=some oj)(Rq:oi.apart ops oj=true)
 (Rs:∀cs b,oi.op≠ .select cs b) (Lr:∀cs b,oj.op≠ .select cs b) (hQ:NP Q) {K:Act→World→Prop} {a:Act} {w:World}
 (hy:YS P C ops oi v a) (h:wpOp P ops Q j K (a.put oi.dst v) w):
 wpOp P ops Q j (fun a' w'=>YS P C ops oi v a'∧K (a'.put oi.dst v) w') a w:=by
 obtain⟨h1,h2,h3⟩:=Oper.apart_spec Rq
 have mJ:∀u,YS P C ops oi v (a.put oj.dst u):=fun u=>hy.of_same (execOp_put (ops:=ops) oi Rs a oj.dst u h3) (wanted_put oi a oj.dst u h3)
 have put_defers:∀(d:Deferred) (u:Value),({a with defers:=d::a.defers}:Act).put oj.dst u={(a.put oj.dst u)with defers:=d::a.defers}:=fun d u=>by
  cases oj.dst<;>rfl
 unfold wpOp at*
 simp only[hj]at*
 rw[wanted_put oj a oi.dst v h1]at h
 split
 ·rename_i hw
  simp only[hw,if_true]at h
  rcases h with h|⟨h,hl⟩
  ·left
   unfold Oper.wp at*;rw[execOp_put oj Lr a oi.dst v h1]at h
   generalize (execOp a.eval oj).run P w=r at*
   cases r with
   |ok nx w'=>
    cases nx<;>simp only[Oper.upon]at h⊢
    case value u=>exact⟨mJ u,by rw[←Act.put_comm a v u h2];exact h⟩
    case skip=>exact⟨mJ _,by rw[←Act.put_comm a v undef h2];exact h⟩
    case defer d=>
     refine⟨?_,?_⟩
     ·rw[put_defers];exact(mJ undef).of_same rfl rfl
     ·have e:({(a.put oi.dst v)with defers:=d::(a.put oi.dst v).defers}:Act).put oj.dst undef=(({a with defers:=d::a.defers}:Act).put oj.dst undef).put oi.dst v:=by
       have:=Act.put_comm ({a with defers:=d::a.defers}:Act) v undef h2
       rw[←this]
       cases oi.dst<;>rfl
      rw[←e];exact h
    case enter f args=>
     refine Calls.mono h fun e Hz he=> ?_
     cases e with
     |returned u=>exact⟨mJ u,by rw[←Act.put_comm a v u h2];exact he⟩
     |panicked c=>exact(hQ _ _ _ he).elim
     |outgrown=>exact he
    case row WN args=>exact Rows.mono h fun u Hz he=>⟨mJ u,by rw[←Act.put_comm a v u h2];exact he⟩
    all_goals exact h
   |halt x w'=>
    cases x<;>simp only[Oper.upon]at h⊢
    all_goals first|exact(hQ _ _ _ h).elim|exact h
  ·right
   refine⟨?_,hl⟩;unfold Oper.asks at*;rw[execOp_put oj Lr a oi.dst v h1]at h;exact h
 ·rename_i hw
  simp only[hw]at h
  exact⟨mJ _,by rw[←Act.put_comm a v undef h2];exact h⟩
theorem WR.first {i:Nat}{oi:Oper}{v:Value}(hi:ops[i]?=some oi)(hQ:NP Q)(Bt:∀(j:Nat) (o:Oper) cs b,ops[j]?=some o→o.op≠ .select cs b):
 ∀(fuel:Nat) (listed:Array Bool) (a:Act) (r:ι),
  (∀j oj,ops[j]?=some oj→j≠i→listed.getD j true=false→(∀e∈oj.after,Region.binds .any e=true→e.on≠i)→oi.apart ops oj=true)→
  i∈Region.ready .any ops listed→YS P C ops oi v a→
  WR P C ops Q fuel (listed.setIfInBounds i true) (a.put oi.dst v) r→WR P C ops Q (fuel+1) listed a r:=by
 intro fuel
 induction fuel with
 |zero=>
  intro listed a r _ hr hy H;refine⟨fun h=>(by rw[h]at hr;cases hr),fun j hj w hw=> ?_⟩
  by_cases tS:j=i
  ·subst tS;exact hy.self hi hw fun w' ui=>⟨r,ui,H⟩
  ·have:=ready_mono hj tS
   rw[H.1]at this
   cases this
 |succ fuel ih=>
  intro listed a r vA hr hy H;refine⟨fun h=>(by rw[h]at hr;cases hr),fun j hj w hw=> ?_⟩
  by_cases tS:j=i
  ·subst tS;exact hy.self hi hw fun w' ui=>⟨r,ui,H⟩
  ·have h1:=H.2 j (ready_mono hj tS) w hw
   obtain⟨Bu,oj,Jb,ej⟩:=mem_ready.1 hj
   have Jc:∀e∈oj.after,Region.binds .any e=true→e.on≠i:=fun e he hb heq=>by
    have h1:=ej e he hb
    have h0:=(mem_ready.1 hr).1
    rw[heq]at h1
    rcases Nat.lt_or_ge i listed.size with h'|h'
    ·simp[h']at h0 h1;rw[h0]at h1;cases h1
    ·simp[Array.getElem?_eq_none h']at h1
   have h2:=AH Jb (vA j oj Jb tS Bu Jc) (fun cs b=>Bt i oi cs b hi) (fun cs b=>Bt j oj cs b Jb) hQ hy h1
   have xR:∀k ok,ops[k]?=some ok→k≠i→(listed.setIfInBounds j true).getD k true=false→
    (∀e∈ok.after,Region.binds .any e=true→e.on≠i)→oi.apart ops ok=true:=fun k ok hk Qg Fm wm=>by
    refine vA k ok hk Qg ?_ wm
    by_cases Ls:j=k
    ·subst Ls;exact Bu
    ·rw[getD_set_ne true Ls]at Fm;exact Fm
   refine wpOp_mono (fun a' w' h3=> ?_) h2;obtain⟨h3,r',h4,h5⟩:=h3;refine⟨r',h4,ih (listed.setIfInBounds j true) a' r' xR (ready_mono hr (Ne.symm tS)) h3 ?_⟩;rw[Array.setIfInBounds_comm _ _ tS];exact h5
end
class pn (bs:List Nat)(H:List bE)(r R:outParam (List bE)):Prop where
 perm:H.Perm (R++r)
instance pn.nil (H:List bE):pn [] H [] H:=⟨by simp⟩
instance pn.cons (b:Nat)(bs:List Nat)(H H1 r R:List bE)(o:Obj)[h:kL b H o H1][k:pn bs H1 r R]:pn (b::bs) H (aZ b o::r) R:=
 ⟨(h.perm.trans (k.perm.cons _)).trans List.perm_middle.symm⟩
section app
instance (priority:=low) iE.app (d:dJ)(L R:List bE)[h:iE d L]:iE d (L++R):=⟨List.mem_append_left _ h.mem⟩
instance (priority:=low) c4.app (b:Nat)(o:Obj)(L R:List bE)[h:c4 b L o]:c4 b (L++R) o:=⟨List.mem_append_left _ h.mem⟩
instance (priority:=low) rm.app {α:Type}(v:Value)(Rr:Rp α)(xs:List α)(L R:List bE)[h:rm v L α Rr xs]:rm v (L++R) α Rr xs:=⟨List.mem_append_left _ h.mem⟩
instance (priority:=low) mi.app (b:Nat)(v:Value)(L R:List bE)[h:mi b L v]:mi b (L++R) v:=⟨List.mem_append_left _ h.mem⟩
instance (priority:=low) tH.app (v:Value)(e:TypeId)(size n:Nat)(cs:List Value)(L R:List bE)[h:tH v L e size n cs]:tH v (L++R) e size n cs:=⟨List.mem_append_left _ h.mem⟩
end app
def SW (P:Program)(ops:Array Oper)(Q:Exit→Act→World→Prop)(n:Nat)(F:Fr)(c:Ctx)(Fp r:List bE)(f:Nat)(listed:Array Bool):Prop:=
 ∀a,Has n a F→WR P (fun R=>Mm c (Fp++R)) ops Q f listed a r
def KW (P:Program)(ops:Array Oper)(Q:Exit→Act→World→Prop)(n:Nat)(c:Ctx)(Fp:List bE)(f:Nat)(listed:Array Bool)(a:Act)(w:World):Prop:=
 ∃F r,Has n a F∧Mm c (Fp++r) w∧SW P ops Q n F c Fp r f listed
section
variable {P:Program}{ops:Array Oper}{Q:Exit→Act→World→Prop}{n:Nat}{F:Fr}{c:Ctx}{H Fp r r' C':List bE}{f:Nat}{listed:Array Bool}
theorem St.par {id:Nat}{l:List Oper}(bs:List Nat)[tk:pn bs H r Fp](hm:P.follows .mixedOrders=true)
 (h:SW P l.toArray Q n F c Fp r l.length (Array.replicate l.length false)):St n F (Mm c H) ((Code.region id l.toArray true).wp P Q):=by
 intro a w ha hw;refine wp_region_any hm ?_
 have h1:=h a ha
 have h2:Mm c (Fp++r) {w with drawn:=w.drawn+1}:=by
  obtain⟨ρ,k⟩:=((Mm.drawn c H) w hw).out;exact Mm.mk (k.perm tk.perm)
 simpa using WR.any (C:=fun R=>Mm c (Fp++R)) l.length _ a r _ h2 h1
theorem SW.done (hr:Region.ready .any ops listed=[])[ap:App Fp r C'](h:St n F (Mm c C') (Q .normal)):SW P ops Q n F c Fp r f listed:=by
 intro a ha
 have h1:∀w,Mm c (Fp++r) w→Q .normal a w:=fun w hw=>h a w ha (by rw[←ap.eq];exact hw)
 cases f with
 |zero=>exact⟨hr,h1⟩
 |succ f=>exact⟨fun _=>h1,fun i hi=>by rw[hr]at hi;cases hi⟩
theorem SW.perm {F':Fr}(hF:Sub F F')(hp:∀w,Mm c (Fp++r') w→Mm c (Fp++r) w)(h:SW P ops Q n F c Fp r (f+1) listed):SW P ops Q n F' c Fp r' (f+1) listed:=by
 intro a ha
 have h1:=h a (ha.sub hF)
 exact⟨fun h0 w hw=>h1.1 h0 w (hp w hw),fun i hi w hw=>h1.2 i hi w (hp w hw)⟩
theorem SW.go [tk:hR Fp H r'](h:SW P ops Q n F c Fp r' f listed):St n F (Mm c H) (KW P ops Q n c Fp f listed):=
 fun _ _ ha hw=>⟨F,r',ha,hw.take,h⟩
theorem SW.each [ap:App Fp r C'](er:Region.ready .any ops listed≠ [])(h:∀i∈Region.ready .any ops listed,St n F (Mm c C') (wpOp P ops Q i (KW P ops Q n c Fp f (listed.setIfInBounds i true)))):SW P ops Q n F c Fp r (f+1) listed:=by
 intro a ha;refine⟨fun h0=>absurd h0 er,fun i hi w hw=> ?_⟩;refine wpOp_mono ?_ (h i hi a w ha (by rw[←ap.eq];exact hw));rintro a' w' ⟨F',r',h1,h2,h3⟩;exact⟨r',h2,h3 a' h1⟩
theorem SW.ar {i:Nat}{o:Oper}[ap:App Fp r C'](hr:Region.ready .any ops listed=[i])(ho:ops[i]?=some o)
 (h:St n F (Mm c C') (wpList P ops (Exit.then (KW P ops Q n c Fp f (listed.setIfInBounds i true)) Q) [o])):SW P ops Q n F c Fp r (f+1) listed:=
 SW.each (by rw[hr];simp) (by rw[hr];intro k hk;rw[List.mem_singleton.1 hk];exact St.one ho h)
theorem SW.ig {i j:Nat}{o o':Oper}[ap:App Fp r C'](hr:Region.ready .any ops listed=[i,j])(ho:ops[i]?=some o)(Rt:ops[j]?=some o')
 (h:St n F (Mm c C') (wpList P ops (Exit.then (KW P ops Q n c Fp f (listed.setIfInBounds i true)) Q) [o]))
 (h':St n F (Mm c C') (wpList P ops (Exit.then (KW P ops Q n c Fp f (listed.setIfInBounds j true)) Q) [o'])):SW P ops Q n F c Fp r (f+1) listed:=
 SW.each (by rw[hr];simp) (by
  rw[hr];intro k hk
  simp only[List.mem_cons,List.not_mem_nil,or_false]at hk
  rcases hk with rfl|rfl
  ·exact St.one ho h
  ·exact St.one Rt h')
theorem SW.Lu {i j k:Nat}{o o' WO:Oper}[ap:App Fp r C'](hr:Region.ready .any ops listed=[i,j,k])(ho:ops[i]?=some o)(Rt:ops[j]?=some o')(Ru:ops[k]?=some WO)
 (h:St n F (Mm c C') (wpList P ops (Exit.then (KW P ops Q n c Fp f (listed.setIfInBounds i true)) Q) [o]))
 (h':St n F (Mm c C') (wpList P ops (Exit.then (KW P ops Q n c Fp f (listed.setIfInBounds j true)) Q) [o']))
 (YJ:St n F (Mm c C') (wpList P ops (Exit.then (KW P ops Q n c Fp f (listed.setIfInBounds k true)) Q) [WO])):SW P ops Q n F c Fp r (f+1) listed:=
 SW.each (by rw[hr];simp) (by
  rw[hr];intro m hm
  simp only[List.mem_cons,List.not_mem_nil,or_false]at hm
  rcases hm with rfl|rfl|rfl
  ·exact St.one ho h
  ·exact St.one Rt h'
  ·exact St.one Ru YJ)
section
variable {d:Nat}{op:Op}{ty:TypeId}{pos:String}{after:Array Edge}{v:Value}
theorem SW.defer (i:Nat)(hQ:NP Q)(hs:Region.noSelect ops=true)(hi:ops[i]?=some {dst:=some d,op:=op,type:=ty,pos:=pos,after:=after,guard:=none})(jw:∀R,Ev P n F (Mm c (Fp++R)) op ty v)
 (hr:((Region.ready .any ops listed).contains i&&Region.free .any ops listed i)=true) (hd:Nat.ble (d+1) n=true)
 (h:SW P ops Q n ((d,v)::F) c Fp r f (listed.setIfInBounds i true)):SW P ops Q n F c Fp r (f+1) listed:=by
 intro a ha
 simp only[Bool.and_eq_true]at hr
 refine WR.first (v:=v) hi hQ (Region.noSelect_spec hs) f listed a r (Region.free_spec hi hr.2) (by simpa using hr.1) ?_ (h _ (ha.put (Nat.le_of_ble_eq_true hd) v));exact .inl ⟨rfl,fun R w hw=>(jw R).quietAt ha hw⟩
theorem SW.Bv (i:Nat){j dj:Nat}{want:Bool}{u:Value}(cd:Bool)(hQ:NP Q)(hs:Region.noSelect ops=true)(hi:ops[i]?=some {dst:=some d,op:=op,type:=ty,pos:=pos,after:=after,guard:=some (j,want)})
 (hj:(ops[j]?).bind (·.dst)=some dj) (hl:look F dj=some u) (hu:(cd=true→u= .bool want)∧(cd=false→u= .bool (!want)∨u=undef))
 (jw:∀R,cd=true→Ev P n F (Mm c (Fp++R)) op ty v)
 (hr:((Region.ready .any ops listed).contains i&&Region.free .any ops listed i)=true) (hd:Nat.ble (d+1) n=true)
 (h:SW P ops Q n ((d,gv cd v)::F) c Fp r f (listed.setIfInBounds i true)):SW P ops Q n F c Fp r (f+1) listed:=by
 intro a ha
 simp only[Bool.and_eq_true]at hr
 have nc:=jj (l:=ops) (o:={dst:=some d,op:=op,type:=ty,pos:=pos,after:=after,guard:=some (j,want)}) rfl hj (ha.slot _ _ hl) hu
 refine WR.first (v:=gv cd v) hi hQ (Region.noSelect_spec hs) f listed a r (Region.free_spec hi hr.2) (by simpa using hr.1) ?_ (h _ (ha.put (Nat.le_of_ble_eq_true hd) _))
 cases hc:cd with
 |true=>
  rw[hc]at nc;rw[c7 rfl];exact .inl ⟨nc,fun R w hw=>(jw R hc).quietAt ha hw⟩
 |false=>
  rw[hc]at nc;rw[az rfl];exact .inr ⟨nc,rfl⟩
end
section
variable {d:Nat}{op:Op}{ty:TypeId}{pos:String}{after:Array Edge}{dj:Nat}{j:Nat}(i:Nat)(v:Value)
theorem SW.gt {g:Bool}(hQ:NP Q)(hs:Region.noSelect ops=true)(hi:ops[i]?=some {dst:=some d,op:=op,type:=ty,pos:=pos,after:=after,guard:=some (j,true)})(hj:(ops[j]?).bind (·.dst)=some dj)(hl:look F dj=some (.bool g))
 (jw:∀R,g=true→Ev P n F (Mm c (Fp++R)) op ty v) (hr:((Region.ready .any ops listed).contains i&&Region.free .any ops listed i)=true) (hd:Nat.ble (d+1) n=true)
 (h:SW P ops Q n ((d,J.gv g v)::F) c Fp r f (listed.setIfInBounds i true)):SW P ops Q n F c Fp r (f+1) listed:=SW.Bv i g hQ hs hi hj hl (JP g) jw hr hd h
theorem SW.gf {g:Bool}(hQ:NP Q)(hs:Region.noSelect ops=true)(hi:ops[i]?=some {dst:=some d,op:=op,type:=ty,pos:=pos,after:=after,guard:=some (j,false)})(hj:(ops[j]?).bind (·.dst)=some dj)(hl:look F dj=some (.bool g))
 (jw:∀R,(!g)=true→Ev P n F (Mm c (Fp++R)) op ty v) (hr:((Region.ready .any ops listed).contains i&&Region.free .any ops listed i)=true) (hd:Nat.ble (d+1) n=true)
 (h:SW P ops Q n ((d,J.gv (!g) v)::F) c Fp r f (listed.setIfInBounds i true)):SW P ops Q n F c Fp r (f+1) listed:=SW.Bv i (!g) hQ hs hi hj hl (JQ g) jw hr hd h
end
theorem SW.slot (k:Nat){v:Value}(v':Value)(hk:look F k=some v)(h:v=v')(hT:SW P ops Q n ((k,v')::F) c Fp r f listed):SW P ops Q n F c Fp r f listed:=by
 subst h
 refine fun a ha=>hT a ⟨ha.size,ha.defers,fun t u hu=> ?_⟩
 simp only[look]at hu
 cases hb:Nat.beq t k with
 |true=>
  have e:=Nat.eq_of_beq_eq_true hb
  subst e
  simp only[hb,cond_true,Option.some.injEq]at hu
  subst hu;exact ha.slot _ _ hk
 |false=>
  simp only[hb,cond_false]at hu
  exact ha.slot _ _ hu
end
theorem Ev.tT {P:Program}{n:Nat}{F:Fr}{A:World→Prop}{ty t:TypeId}{x:Operand}{xs:Array Value}{fs:Array Field}{fd:Field}{i:Nat}{v:Value}(hx:aL F x (.agg xs))(ht:P.underlying t=some (.struct fs))(hf:fs[i]?=some fd)
 (hk:(match P.underlying fd.type with|some (.struct _)|some (.array _ _)|none=>false|_=>true)=true) (hv:xs[fd.offset]?=some v):Ev P n F A (.field t x i) ty v:= .of_run fun a w ha _=>by
 simp[execOp,hx.eval ha,Instr.field,run_underlying ht,hf,asAgg,kb hk hv]
theorem de.Lv {P:Program}{f:FuncId}{fn:Func}{cd:Code}{args:List Value}{u:Value}{d1 d2 d3 d4 d5:dJ}(n:Nat)
 (hf:P.funcs[f]?=some fn) (hb:fn.body=some cd) (hn:fn.ntmps=n) (gW:Nat.ble args.length n=true)
 (h:∀c:Ctx,St n (nd 0 args) (Mm c [aE d1,aE d2,aE d3,aE d4,aE d5]) (cd.wp P (bodyPost P fn fun e w'=>∃v H',e= .returned v∧v=u∧Mm c H' w'))):de P f args.toArray [d1,d2,d3,d4,d5] u:=eI.body n hf hb hn gW h
theorem aA:(∀b:Bool,(b&&true)=b)∧(∀b:Bool,(true&&b)=b)∧(∀(p:Prop) [Decidable p],(decide p=true)=p)∧(∀(p:Prop) [Decidable p],(decide p=false)↔¬p)∧(∀a b:Bool,((a&&b)=true)=(a=true∧b=true))∧(∀a b:Bool,((a||b)=true)=(a=true∨b=true))∧
 (∀a b:Bool,(a&&b)=false↔a=false∨b=false)∧(∀a b:Bool,(a||b)=false↔a=false∧b=false)∧(∀b:Bool,((!b)=true)=(b=false))∧(∀b:Bool,((!b)=false)=(b=true))∧(∀{α:Type} [BEq α] [LawfulBEq α] (a b:α),(a==b)=true↔a=b)∧(∀{α:Type} [BEq α] [LawfulBEq α] (a b:α),(a==b)=false↔a≠b)∧
 (∀a b:Int,¬a<b↔b≤a)∧(∀a b:Int,¬a≤b↔b<a):=
 ⟨fun _=>Bool.and_true _,fun _=>Bool.true_and _,fun _ _=>decide_eq_true_eq,fun _ _=>decide_eq_false_iff_not,Bool.and_eq_true,Bool.or_eq_true,fun _ _=>Bool.and_eq_false_iff,fun _ _=>Bool.or_eq_false_iff,fun _=>Bool.not_eq_true' _,fun _=>Bool.not_eq_false' _,fun _ _=>beq_iff_eq,fun _ _=>beq_eq_false_iff_ne,fun _ _=>Int.not_lt,fun _ _=>Int.not_le⟩
section
variable {P:Program}{n:Nat}{F:Fr}{A:World→Prop}{Q:Exit→Act→World→Prop}{ops:Array Oper}{d:Nat}{ty:TypeId}{pos:String}{after:Array Edge}{rest:List Oper}{x:Operand}{v:Value}{c:Ctx}{H:List bE}{t e:TypeId}
theorem St.mv (h:St n ((d,v)::F) A (wpList P ops Q rest))(hx:aL F x v:=by exact .mk rfl)(hd:Nat.ble (d+1) n=true:=by rfl):St n F A (wpList P ops Q ({dst:=some d,op:= .move x,type:=ty,pos:=pos,after:=after,guard:=none}::rest)):=St.ev _ (Ev.move hx) hd h
theorem St.ao (h:St n ((d,v)::F) A (wpList P ops Q rest))(hx:aL F x v:=by exact .mk rfl)(hd:Nat.ble (d+1) n=true:=by rfl):St n F A (wpList P ops Q ({dst:=some d,op:= .assign x,type:=ty,pos:=pos,after:=after,guard:=none}::rest)):=St.ev _ (Ev.assign hx) hd h
theorem mm {α:Type}:∀(ps:List (Nat×α)) (k:Nat),ps.map (·.1)=List.range' k ps.length→ps=((ps.map (·.2)).zipIdx k).map fun p=>(p.2,p.1)
 | [],_,_=>rfl
 |(i,a)::ps,k,h=>by
  simp only[List.map_cons,List.length_cons,List.range'_succ,List.cons.injEq]at h
  simp only[List.map_cons,List.zipIdx_cons]
  rw[←mm ps (k+1) h.2,h.1]
theorem St.cS {size:Nat}{vs:List Value}{ps:List (Nat×Operand)}{zv:Value}(hp:ps.map (·.1)=List.range' 0 ps.length)(hx:aQ F (ps.map (·.2)) vs)(ht:P.underlying t=some (.slice e))(hs:(P.info? e).map (·.size)=some size)
 (hz:(P.info? e).bind (·.zero)=some zv) (nh:Nat.ble 1 size=true) (hlen:Nat.ble (vs.length*size) 16777216=true) (jl:∀u∈vs,u.cells.size=size) (hd:Nat.ble (d+1) n=true)
 {m:Nat} (hm:m=vs.length)
 (h:∀b,St n ((d,.slice (some ⟨b,0,none⟩) m m)::F) (Mm c (row (.slice (some ⟨b,0,none⟩) m m) e size m (vs.flatMap fun u=>u.cells.toList)::H)) (wpList P ops Q rest)):
 St n F (Mm c H) (wpList P ops Q ({dst:=some d,op:= .buildSlice t m ps.toArray,type:=ty,pos:=pos,after:=after,guard:=none}::rest)):=St.Fe (mm ps 0 hp) hx ht hs hz nh hlen jl hd hm h
end
structure MK (κ:Type) where
 enc:κ→Value
 kd:TypeDesc
 same:∀a b:κ,∀ [DecidableEq κ],Instr.sameNow kd (enc a) (enc b)=some (decide (a=b))
 key:∀a,MapKept.IsKey kd (enc a)
 bits:∀a,Instr.sameBits 10000 (enc a) (enc a)=true
def mkStr:MK ax:=⟨fun s=>sv s,.string,fun a b _=>by
    simp only[Instr.sameNow,Option.some.injEq];rw[Bool.eq_iff_iff,MapKept.bytes_beq];simp,fun a=>by simp[MapKept.IsKey],fun a=>by simp only[Instr.sameBits];exact(MapKept.bytes_beq _ _).2 rfl⟩
section assoc
variable {κ:Type}[DecidableEq κ]
def jy:List (κ×Value)→κ→Option Value
 | [],_=>none
 |p::l,k=>if k=p.1 then some p.2 else jy l k
def gZ:List (κ×Value)→κ→Value→List (κ×Value)
 | [],k,v=>[(k,v)]
 |p::l,k,v=>if k=p.1 then(k,v)::l else p::gZ l k v
theorem vC (l:List (κ×Value))(k:κ)(v:Value)(k':κ):jy (gZ l k v) k'=if k'=k then some v else jy l k':=by
 induction l with
 |nil=>simp[gZ,jy]
 |cons p l ih=>
  unfold gZ
  by_cases h:k=p.1
  ·rw[if_pos h]
   simp only[jy]
   by_cases h2:k'=k
   ·rw[if_pos h2,if_pos h2]
   ·rw[if_neg h2,if_neg h2,if_neg (by rw[←h];exact h2)]
  ·rw[if_neg h]
   simp only[jy,ih]
   by_cases h2:k'=p.1
   ·rw[if_pos h2,if_pos h2,if_neg (fun e=>h (by rw[←e,h2]))]
   ·rw[if_neg h2,if_neg h2]
end assoc
section
variable {κ:Type}[DecidableEq κ]
def gG (K:MK κ):List (κ×Value)→Nat→List MapEntry
 | [],_=>[]
 |p::l,i=>⟨K.enc p.1,p.2,i⟩::gG K l (i+1)
def gE (K:MK κ)(l:List (κ×Value)):Obj:= .map (gG K l 0).toArray l.length
omit [DecidableEq κ]in
def Bw:List (κ×Value)→κ→Nat→Option (Nat×Value)
 | [],_,_=>none
 |p::l,k,i=>if k=p.1 then some (i,p.2)else Bw l k (i+1)
theorem Fo (l:List (κ×Value))(k:κ)(i:Nat):(Bw l k i).map (·.2)=jy l k:=by
 induction l generalizing i with
 |nil=>rfl
 |cons p l ih=>simp only[Bw,jy];split
               ·rfl
               ·exact ih _
theorem jW (K:MK κ)(k:κ):∀(l:List (κ×Value)) (i c:Nat),Instr.findNow K.kd (K.enc k) (gG K l i) c=some (Bw l k c)
 | [],i,c=>rfl
 |p::l,i,c=>by
  simp only[gG,Instr.findNow,K.same k p.1,Bw]
  by_cases h:k=p.1
  ·simp[h]
  ·simp only[h,decide_false,if_false]
   exact jW K k l _ _
omit [DecidableEq κ]in
theorem po (K:MK κ)(k:κ)(v:Value):∀(l:List (κ×Value)) (i:Nat),gG K (l++ [(k,v)]) i=gG K l i++ [⟨K.enc k,v,i+l.length⟩]
 | [],i=>by simp[gG]
 |p::l,i=>by simp only[List.cons_append,gG,po K k v l (i+1),List.length_cons];congr 4;omega
theorem AJ {l:List (κ×Value)}{k:κ}{v:Value}{c:Nat}(h:Bw l k c=none):gZ l k v=l++ [(k,v)]:=by
 induction l generalizing c with
 |nil=>rfl
 |cons p l ih=>
  simp only[Bw]at h
  split at h
  ·cases h
  ·rename_i h1;unfold gZ;rw[if_neg h1,ih h];rfl
theorem s6 {K:MK κ}{k:κ}{v u:Value}:∀{l:List (κ×Value)} {c j:Nat} (i:Nat),Bw l k c=some (j,u)→c≤j∧j-c<l.length∧((gG K l i)[j-c]?).map (·.key)=some (K.enc k)∧
 gG K (gZ l k v) i=(gG K l i).modify (j-c) (fun e=>{e with key:=K.enc k,val:=v})∧(gZ l k v).length=l.length
 | [],c,j,i,h=>by cases h
 |p::l,c,j,i,h=>by
  simp only[Bw]at h
  split at h
  ·rename_i h1
   simp only[Option.some.injEq,Prod.mk.injEq]at h
   obtain⟨rfl,rfl⟩:=h;unfold gZ;rw[if_pos h1];subst h1
   simp[gG]
  ·rename_i h1
   obtain⟨q1,q2,q3,q4,q5⟩:=s6 (K:=K) (v:=v) (i+1) h
   have e:j-c=(j-(c+1))+1:=by omega
   unfold gZ;rw[if_neg h1];refine⟨by omega,by simp only[List.length_cons];omega,?_,?_,by simp[q5]⟩
   ·rw[e];simpa[gG]using q3
   ·rw[e];simp only[gG,List.modify_succ_cons,q4]
variable {P:Program}{n:Nat}{F:Fr}{A:World→Prop}{c:Ctx}{H R:List bE}{ty t kt et:TypeId}{x y z:Operand}{v:Value}{Q:Exit→Act→World→Prop}{ops:Array Oper}{rest:List Oper}{d:Nat}{pos:String}{after:Array Edge}
class Jd (b:Nat)(H:List bE)(κ:outParam Type)(K:outParam (MK κ))(l:outParam (List (κ×Value))):Prop where
 mem:aZ b (gE K l)∈H
instance (priority:=high) Jd.here {κ:Type}(b:Nat)(K:MK κ)(l:List (κ×Value))(H:List bE):Jd b (aZ b (gE K l)::H) κ K l:=⟨List.mem_cons_self ..⟩
instance Jd.there {κ:Type}(b:Nat)(K:MK κ)(l:List (κ×Value))(E:bE)(H:List bE)[h:Jd b H κ K l]:Jd b (E::H) κ K l:=⟨List.mem_cons_of_mem _ h.mem⟩
class s7 (b:Nat)(H:List bE)(κ:outParam Type)(K:outParam (MK κ))(l:outParam (List (κ×Value)))(R:outParam (List bE)):Prop where
 perm:H.Perm (aZ b (gE K l)::R)
instance (priority:=high) s7.here {κ:Type}(b:Nat)(K:MK κ)(l:List (κ×Value))(H:List bE):s7 b (aZ b (gE K l)::H) κ K l H:=⟨.refl _⟩
instance s7.there {κ:Type}(b:Nat)(K:MK κ)(l:List (κ×Value))(E:bE)(H R:List bE)[h:s7 b H κ K l R]:s7 b (E::H) κ K l (E::R):=⟨(h.perm.cons E).trans (.swap ..)⟩
omit [DecidableEq κ]in
theorem St.makeMap (K:MK κ)(hd:Nat.ble (d+1) n=true)(h:∀b,St n ((d,.map (some b))::F) (Mm c (aZ b (gE K [])::H)) (wpList P ops Q rest)):
 St n F (Mm c H) (wpList P ops Q ({dst:=some d,op:= .makeMap t none,type:=ty,pos:=pos,after:=after,guard:=none}::rest)):=by
 refine St.I1 (K:=fun u H'=>∃b,u= .map (some b)∧H'=aZ b (gE K [])::H) ?_ hd ?_
 ·intro a w ρ ha hm
  refine⟨.value (.map (some w.heap.size)),w.alloc (.map #[] 0),ρ,_,?_,⟨_,.inl rfl,_,rfl,rfl⟩,hm.alloc _⟩
  simp[execOp,RowKit.run_makeMap]
 ·rintro _ _ ⟨b,rfl,rfl⟩
  exact h b
theorem Bx {zv:Value}{w:World}(hz:(P.info? et).bind (·.zero)=some zv):(zeroValue et).run P w= .ok zv w:=by
 obtain⟨i,hi,Rg⟩:=Option.bind_eq_some_iff.1 hz
 simp[zeroValue,typeInfo,hi,Rg]
theorem pq (K:MK κ){l:List (κ×Value)}{b:Nat}{k:κ}{zv:Value}{w:World}(ok:Bool)(ht:P.underlying t=some (.map kt et))(hk:P.underlying kt=some K.kd)(hz:(P.info? et).bind (·.zero)=some zv)(hb:w.heap[b]?=some (gE K l)):
 (Instr.lookup t (.map (some b)) (K.enc k) ok).run P w= .ok (if ok then .tuple #[(jy l k).getD zv,.bool (jy l k).isSome]else(jy l k).getD zv) w:=by
 have h1:=MapKept.run_findKey (w:=w) hk (jW K k l 0 0)
 have h2:=Bx (P:=P) (w:=w) hz
 have h3:=MapKept.run_getObj_map (P:=P) hb
 have h4:=MapKept.run_checkKey (w:=w) hk (K.key k) (gG K l 0).toArray.isEmpty 9999
 simp only[Instr.lookup,Sem.run_bind,run_underlying ht,Result.andThen_ok,h3,Sem.run_pure,h4,h1,←Fo l k 0]
 cases hm:Bw l k 0 with
 |none=>simp[h2]
 |some p=>simp
theorem Ev.lookup (K:MK κ){l:List (κ×Value)}{b:Nat}{k:κ}{zv:Value}[hb:Jd b H κ K l](hx:aL F x (.map (some b)))(hy:aL F y (K.enc k))(ht:P.underlying t=some (.map kt et))(hk:P.underlying kt=some K.kd)(hz:(P.info? et).bind (·.zero)=some zv):
 Ev P n F (Mm c H) (.lookup t x y false) ty ((jy l k).getD zv):= .of_run fun a w ha hw=>by
 obtain⟨ρ,hm⟩:=hw.out
 have:=pq (P:=P) K (k:=k) false ht hk hz (eK.1 (hm.ct _ hb.mem))
 simp[execOp,hx.eval ha,hy.eval ha,this]
theorem Ev.jz (K:MK κ){l:List (κ×Value)}{b:Nat}{k:κ}{zv:Value}[hb:Jd b H κ K l](hx:aL F x (.map (some b)))(hy:aL F y (K.enc k))(ht:P.underlying t=some (.map kt et))(hk:P.underlying kt=some K.kd)(hz:(P.info? et).bind (·.zero)=some zv):
 Ev P n F (Mm c H) (.lookup t x y true) ty (.tuple #[(jy l k).getD zv,.bool (jy l k).isSome]):= .of_run fun a w ha hw=>by
 obtain⟨ρ,hm⟩:=hw.out
 have:=pq (P:=P) K (k:=k) true ht hk hz (eK.1 (hm.ct _ hb.mem))
 simp[execOp,hx.eval ha,hy.eval ha,this]
omit [DecidableEq κ]in
theorem Bz (K:MK κ)(k:κ)(w:World):(Instr.keyThatStays (K.enc k) (K.enc k)).run P w= .ok (K.enc k) w:=by
 simp[Instr.keyThatStays,K.bits k]
theorem rF (K:MK κ){l:List (κ×Value)}{b:Nat}{k:κ}{w:World}(ht:P.underlying t=some (.map kt et))(hk:P.underlying kt=some K.kd)(hb:w.heap[b]?=some (gE K l)):
 (Instr.mapUpdate t (.map (some b)) (K.enc k) v).run P w= .ok () {w with heap:=w.heap.setIfInBounds b (gE K (gZ l k v))}:=by
 have h1:=MapKept.run_findKey (w:=w) hk (jW K k l 0 0)
 have h3:=MapKept.run_getObj_map (P:=P) hb
 have h4:=MapKept.run_checkKey (w:=w) hk (K.key k) false 9999
 simp only[Instr.mapUpdate,Sem.run_bind,run_underlying ht,Result.andThen_ok,h3,h4,h1]
 cases hm:Bw l k 0 with
 |none=>
  have e:gE K (gZ l k v)= .map ((gG K l 0).toArray.push {key:=K.enc k,val:=v,born:=l.length}) (l.length+1):=by
   rw[AJ hm]
   simp[gE,po]
  rw[e];exact MapKept.run_setObj_map (P:=P) _ hb
 |some p=>
  obtain⟨j,u⟩:=p;obtain⟨_,q2,q3,q4,q5⟩:=s6 (K:=K) (v:=v) 0 hm
  have e:gE K (gZ l k v)= .map ((gG K l 0).toArray.modify j fun e=>{e with key:=K.enc k,val:=v}) l.length:=by
   unfold gE;rw[q4,q5]
   simp
  rw[e]
  have YK:(((gG K l 0).toArray[j]?).map (·.key)).getD (K.enc k)=K.enc k:=by
   simp only[Nat.sub_zero]at q3
   simp[q3]
  simp only[YK,Sem.run_bind,Bz,Result.andThen_ok]
  exact MapKept.run_setObj_map (P:=P) _ hb
theorem St.mapUpdate (K:MK κ){l:List (κ×Value)}{b:Nat}{k:κ}[tk:s7 b H κ K l R](hx:aL F x (.map (some b)))(hy:aL F y (K.enc k))(hz:aL F z v)(ht:P.underlying t=some (.map kt et))(hk:P.underlying kt=some K.kd)
 (h:St n F (Mm c (aZ b (gE K (gZ l k v))::R)) (wpList P ops Q rest)):
 St n F (Mm c H) (wpList P ops Q ({dst:=none,op:= .mapUpdate t x y z,type:=ty,pos:=pos,after:=after,guard:=none}::rest)):=by
 refine St.lT (K:=fun u H'=>H'=aZ b (gE K (gZ l k v))::R) ?_ ?_
 ·intro a w ρ ha hm
  have iT:=hm.perm tk.perm
  have hb:=eK.1 (iT.ct _ (List.mem_cons_self ..))
  have hr:=rF (P:=P) K (k:=k) (v:=v) ht hk hb
  refine⟨.skip,{w with heap:=w.heap.setIfInBounds b (gE K (gZ l k v))},ρ,_,?_,⟨_,.inr ⟨rfl,rfl⟩,rfl⟩,?_⟩
  ·simp[execOp,hx.eval ha,hy.eval ha,hz.eval ha,hr]
  ·have hs:=MapKept.heap_set (o':=gE K (gZ l k v)) hb
   refine iT.alter rfl ⟨rfl,Nat.le_refl _⟩ rfl (by simp) (fun j hj er=> ?_) (eK.2 hs.1) (fun b' jC=>by rw[gT]at jC⊢;exact .inl jC);rw[gT]at er;exact hs.2 j (fun e=>er (by rw[e]))
 ·rintro _ _ rfl
  exact h
omit [DecidableEq κ]in
end
section
variable {n:Nat}{F:Fr}{c:Ctx}{H R:List bE}{T:Act→World→Prop}
theorem St.fP {ι:Sort _}(d:dJ)[hd:iE d H](L:ι→List dJ)(h:∀ρ,d.f ρ→∃x,∀e∈L x,e.f ρ)(k:∀x,St n F (Mm c ((L x).map aE++H)) T):St n F (Mm c H) T:=by
 intro a w ha hw;obtain⟨ρ,hm⟩:=hw.out;obtain⟨x,hx⟩:=h ρ (cw.1 (hm.ct _ hd.mem));exact k x a w ha (Mm.mk (hm.uo (L x) hx))
theorem St.iJ (d:dJ)(L:List dJ)[hd:mK L H](h:∀ρ,(∀e∈L,e.f ρ)→d.f ρ)(k:St n F (Mm c (aE d::H)) T):St n F (Mm c H) T:=
 St.fact d (fun ρ w hm=>h ρ fun e he=>cw.1 (hm.ct _ (hd.mem e he))) k
def ub {α:Type}(Rr:Rp α)(v:Value)(l:List (List α)):dJ:=⟨fun ρ=>∃vs:List dQ,vs.length=l.length∧(sl br v vs).f ρ∧(mL Rr vs l).f ρ,
 fun ρ gS h ⟨vs,h1,h2,h3⟩=>⟨vs,h1,(sl br v vs).mono _ _ h h2,(mL Rr vs l).mono _ _ h h3⟩⟩
class AK (v:Value)(H:List bE)(α:outParam Type)(R:outParam (Rp α))(xs:outParam (List (List α))):Prop where
 mem:aE (ub R v xs)∈H
instance (priority:=high) AK.here {α:Type}(v:Value)(R:Rp α)(xs:List (List α))(H:List bE):AK v (aE (ub R v xs)::H) α R xs:=⟨List.mem_cons_self ..⟩
instance AK.there {α:Type}(v:Value)(R:Rp α)(xs:List (List α))(E:bE)(H:List bE)[h:AK v H α R xs]:AK v (E::H) α R xs:=⟨List.mem_cons_of_mem _ h.mem⟩
theorem St.pr {α:Type}{Rr:Rp α}{l:List (List α)}(v:Value)[hd:AK v H α Rr l](k:∀vs:List dQ,vs.length=l.length→St n F (Mm c (aE (sl br v vs)::aE (J.mL Rr vs l)::H)) T):St n F (Mm c H) T:=by
 intro a w ha hw;obtain⟨ρ,hm⟩:=hw.out;obtain⟨vs,h1,h2,h3⟩:=cw.1 (hm.ct _ hd.mem);exact k vs h1 a w ha (Mm.mk ((hm.fact _ h3).fact _ h2))
theorem St.C0 {α:Type}{Rr:Rp α}{l:List (List α)}(v:Value){vs:List dQ}[h1:iE (sl br v vs) H][h2:iE (J.mL Rr vs l) H](hl:vs.length=l.length)(k:St n F (Mm c (aE (ub Rr v l)::H)) T):St n F (Mm c H) T:=
 St.fact (ub Rr v l) (fun ρ w hm=>⟨vs,hl,cw.1 (hm.ct _ h1.mem),cw.1 (hm.ct _ h2.mem)⟩) k
theorem C1 {α:Type}{Rr:Rp α}{vs:List dQ}{fy:List (List α)}{u:dQ}{x:List α}{ρ:Ro}(h:(J.mL Rr vs fy).f ρ)(hu:(sl Rr u.1 x).f ρ)(hl:vs.length=fy.length):(J.mL Rr (vs++ [u]) (fy++ [x])).f ρ:=by
 intro i u' l' h1 h2
 rcases Nat.lt_or_ge i vs.length with hi|hi
 ·rw[List.getElem?_append_left hi]at h1
  rw[List.getElem?_append_left (by omega)]at h2;exact h i u' l' h1 h2
 ·rw[List.getElem?_append_right hi]at h1
  rw[List.getElem?_append_right (by omega)]at h2
  have WQ:i-vs.length=0:=by
   have:=(List.getElem?_eq_some_iff.1 h1).1
   simp at this;omega
  rw[WQ]at h1;rw[show i-fy.length=0 by omega]at h2
  simp only[List.getElem?_cons_zero,Option.some.injEq]at h1 h2
  subst h1 h2;exact hu
theorem St.pR {α:Type}{Rr:Rp α}(vs:List dQ)(u:dQ){x:List α}{fy:List (List α)}[h1:I9 vs H α Rr fy][h2:rm u.1 H α Rr x](hl:vs.length=fy.length)(k:St n F (Mm c (aE (J.mL Rr (vs++ [u]) (fy++ [x]))::H)) T):St n F (Mm c H) T:=
 St.fact _ (fun ρ w hm=>C1 (cw.1 (hm.ct _ h1.mem)) (cw.1 (hm.ct _ h2.mem)) hl) k
theorem eR {α:Type}{xs:List α}{x:α}:xs.length+1=(xs++ [x]).length:=by rw[List.length_append];rfl
theorem St.Lw {α:Type}{Rr:Rp α}(vs:List dQ){fy:List (List α)}[h1:I9 vs H α Rr fy](hl:vs.length=fy.length)(k:(∀xs∈fy,∀x∈xs,Rr.wf x)→St n F (Mm c H) T):St n F (Mm c H) T:=by
 intro a w ha hw;obtain⟨ρ,hm⟩:=hw.out;refine k (fun xs YL x hx=> ?_) a w ha hw;obtain⟨i,hi,he⟩:=List.mem_iff_getElem.1 YL
 have hv:i<vs.length:=by omega
 obtain⟨_,_,_,_,_,h4,_⟩:=cw.1 (hm.ct _ h1.mem) i vs[i] xs (List.getElem?_eq_getElem hv) (by rw[List.getElem?_eq_getElem hi,he]);exact h4 x hx
theorem St.pt {α:Type}(Rr:Rp α)(k:St n F (Mm c (aE (J.mL Rr [] [])::H)) T):St n F (Mm c H) T:=
 St.fact _ (fun _ _ _=>show(J.mL Rr [] []).f _ from fun i u l hu=>by simp at hu) k
theorem St.dN {α:Type}(Rr:Rp α)(k:St n F (Mm c (aE (sl Rr (.slice none 0 0) [])::H)) T):St n F (Mm c H) T:=St.fact _ (fun _ _ _=>xQ Rr _) k
end
section
variable {P:Program}{Q:Exit→Act→World→Prop}{n:Nat}{F:Fr}{c:Ctx}{H Fp:List bE}
theorem SW.split {ops:Array Oper}{r:List bE}{f:Nat}{listed:Array Bool}(k:Nat)(b:Bool)(hk:look F k=some (.bool b))(ht:b=true→SW P ops Q n ((k,.bool true)::F) c Fp r f listed)(hf:b=false→SW P ops Q n ((k,.bool false)::F) c Fp r f listed):SW P ops Q n F c Fp r f listed:=by
 cases b with
 |true=>exact SW.slot k (.bool true) hk rfl (ht rfl)
 |false=>exact SW.slot k (.bool false) hk rfl (hf rfl)
theorem St.Rv {id:Nat}{l:List Oper}(L:List bE)[tk:hR L H Fp](hm:P.follows .mixedOrders=true)
 (h:SW P l.toArray Q n F c Fp L l.length (Array.replicate l.length false)):St n F (Mm c H) ((Code.region id l.toArray true).wp P Q):=by
 intro a w ha hw;refine wp_region_any hm ?_
 have h1:=h a ha
 have h2:Mm c (Fp++L) {w with drawn:=w.drawn+1}:=by
  obtain⟨ρ,k⟩:=((Mm.drawn c H) w hw).out;exact Mm.mk (k.perm (tk.perm.trans List.perm_append_comm))
 simpa using WR.any (C:=fun R=>Mm c (Fp++R)) l.length _ a L _ h2 h1
end
section
variable {P:Program}{Q:Exit→Act→World→Prop}{n:Nat}{F:Fr}{c:Ctx}{H Fp r:List bE}
theorem St.ek {id:Nat}{l:List Oper}(L:List bE)[tk:hR L H Fp](hm:P.follows .mixedOrders=true)
 (h:NP Q→Region.noSelect l.toArray=true→SW P l.toArray Q n F c Fp L l.length (Array.replicate l.length false)) (hQ:NP Q:=by repeat(first|refine NP.then ?_|refine NP.inBlock ?_|exact NP.body)) (hs:Region.noSelect l.toArray=true:=by kernel_rfl):St n F (Mm c H) ((Code.region id l.toArray true).wp P Q):=
 St.Rv L hm (h hQ hs)
theorem St.lr {id:Nat}{l:List Oper}(bs:List Nat)[tk:pn bs H r Fp](hm:P.follows .mixedOrders=true)
 (h:NP Q→Region.noSelect l.toArray=true→SW P l.toArray Q n F c Fp r l.length (Array.replicate l.length false)) (hQ:NP Q:=by repeat(first|refine NP.then ?_|refine NP.inBlock ?_|exact NP.body)) (hs:Region.noSelect l.toArray=true:=by kernel_rfl):St n F (Mm c H) ((Code.region id l.toArray true).wp P Q):=
 St.par bs hm (h hQ hs)
end
end Go.J
namespace Go.J
open Go Go.ChangeShapes Go.WideShapes Go.ChangeAt Go.RowKit Go.Deep
section
variable {H:Type}{enc:TypeId×Value→H}{P:Program}{W:World}{α:Type}
end
theorem vD {P : Program} {W : World} {g3 g4 T3 T4 T5 TS : Nat} {fs : Array Field} (n3 : P.globalNamed "unicode/utf8.first" = some g3) (n4 : P.globalNamed "unicode/utf8.acceptRanges" = some g4)
 (y3:(P.globals[g3]?).map (·.type)=some T3) (y4:(P.globals[g4]?).map (·.type)=some T4) (t3:P.underlying T3=some (.array 256 T5)) (t5:P.underlying T5=some (.int .u8)) (t4:P.underlying T4=some (.array 16 TS)) (ts:P.underlying TS=some (.struct fs))
 (hf:∀(i:Nat) (f:Field),fs[i]?=some f→P.underlying f.type=some (.int .u8)∧f.offset=i∧P.cellsOf f.type=1) (YM:fs.size=2) (c5:P.cellsOf T5=1) (c3:P.cellsOf T3=256) (cs:P.cellsOf TS=2)
 {l : List (String × DataW Unit)} (h : laidMetH P l W) (hp : (laidMetH P l W) = laidMet P l W) (m3 : ("unicode/utf8.first", Lib.firstData) ∈ l) (m4 : ("unicode/utf8.acceptRanges", Lib.acceptData) ∈ l) : Lib.Utf8Tabs g3 g4 W := by
 rw[hp]at h
 have h3:=Lib.laidMet.reads h m3
 have h4:=Lib.laidMet.reads h m4
 refine⟨fun c hc=> ?_,fun i hi=> ?_⟩
 ·obtain⟨g,t,cs,fuel,p,hg,FJ,vE,hd⟩:=h3
  obtain rfl:=Option.some.inj (n3.symm.trans hg);obtain rfl:=Option.some.inj (y3.symm.trans FJ)
  have jl:=Lib.cells_of_tab t3 t5 c5 c3 hd
  have:=World.var?_cell hg vE c
  rw[this,←Array.getElem?_toList,jl]
  simp[Lib.firstTab,hc]
 ·obtain⟨g,t,cells,fuel,p,hg,FJ,vE,hd⟩:=h4
  obtain rfl:=Option.some.inj (n4.symm.trans hg);obtain rfl:=Option.some.inj (y4.symm.trans FJ);obtain⟨WS,d,q,WT,he⟩:=Lib.array_elem t4 hd i hi
  simp only[List.getElem?_map,List.getElem?_range hi,Option.map_some,Option.some.injEq]at WT
  subst WT;rw[cs]at he
  have jl:=Lib.ints_of_struct ts hf (by rw[cs,YM]) he
  have e0:=congrArg (·[0]?) jl
  have e1:=congrArg (·[1]?) jl
  simp only[List.getElem?_take,List.getElem?_drop]at e0 e1
  constructor
  ·rw[World.var?_cell hg vE (2*i),←Array.getElem?_toList]
   simpa[Nat.mul_comm]using e0
  ·rw[World.var?_cell hg vE (2*i+1),←Array.getElem?_toList]
   simpa[Nat.mul_comm]using e1
theorem pw {W w:World}(h:∀(k:Nat) (o:Obj),W.heap[k]?=some o→w.heap[k]?=some o){g o:Nat}{v:Value}(hc:W.cell? ⟨g,o,none⟩=some v):w.cell? ⟨g,o,none⟩=some v:=by
 obtain⟨_,C,e,fr,hb,hv⟩:=ei hc
 rw[bp (h _ _ hb)];exact hv
theorem tU {W w:World}{g3 g4:Nat}(h:Lib.Utf8Tabs g3 g4 W)(hw:∀(k:Nat) (o:Obj),W.heap[k]?=some o→w.heap[k]?=some o):Lib.Utf8Tabs g3 g4 w:=
 ⟨fun c hc=>pw hw (h.1 c hc),fun i hi=>⟨pw hw (h.2 i hi).1,pw hw (h.2 i hi).2⟩⟩
end Go.J
namespace Go.J
open Go
section
variable {α:Type}
theorem m8 {p:α→Bool}{s:List α}{k:Nat}{d:α}(h:(s.take k).all p=true)(hk:p (s.getD k d)=true):(s.take (k+1)).all p=true:=by
 by_cases hl:k<s.length
 ·rw[List.take_succ_eq_append_getElem hl,List.all_append,h]
  rw[List.getD_eq_getElem?_getD,List.getElem?_eq_getElem hl]at hk
  simpa using hk
 ·rw[List.take_of_length_le (by omega)];rwa[List.take_of_length_le (by omega)]at h
theorem tV {p:α→Bool}{s:List α}{k:Nat}{d:α}(hk:k<s.length)(h:p (s.getD k d)=false):s.all p=false:=by
 rw[List.getD_eq_getElem?_getD,List.getElem?_eq_getElem hk]at h;rw[List.all_eq_false];exact⟨s[k],List.getElem_mem hk,by simpa using h⟩
theorem oY {p:α→Bool}{s:List α}{k:Nat}(h:(s.take k).all p=true)(hk:s.length≤k):s.all p=true:=by rwa[List.take_of_length_le hk]at h
theorem aY {s:List α}{k:Nat}(h:k<s.length):∃x,s[k]?=some x:=⟨_,List.getElem?_eq_getElem h⟩
theorem bS {s:List α}{k:Nat}{x:α}(h:s[k]?=some x):s.drop k=x::s.drop (k+1):=by
 obtain⟨hl,rfl⟩:=List.getElem?_eq_some_iff.1 h;exact List.drop_eq_getElem_cons hl
theorem cg {s:List α}{k:Nat}{x:α}(h:s[k]?=some x):k<s.length:=(List.getElem?_eq_some_iff.1 h).1
theorem bD {s:List α}{k:Nat}{x:α}(h:s[k]?=some x):s.take (k+1)=s.take k++ [x]:=by
 obtain⟨hl,rfl⟩:=List.getElem?_eq_some_iff.1 h;exact List.take_succ_eq_append_getElem hl
end
theorem be {a b:Bool}(h:a=b):A9 [Value.bool a]= .bool b:=by rw[h];rfl
theorem ie {a b:Int}(h:a=b):A9 [iv a]=iv b:=by rw[h];rfl
def fv (f:Int×Int):Value:= .agg #[iv f.1,iv f.2]
theorem fe {a b:Int}{f:Int×Int}(h:f=(a,b)):A9 [.agg #[iv a,iv b]]=fv f:=by rw[h];rfl
def low (c:UInt8):Bool:=decide ((97:Int)≤c.toNat)&&decide ((c.toNat:Int)≤122)
def digit (c:UInt8):Bool:=decide ((48:Int)≤c.toNat)&&decide ((c.toNat:Int)≤57)
def eE (c:UInt8):Bool:=low c||digit c||decide ((c.toNat:Int)=95)||decide ((c.toNat:Int)=45)
def isName (s:ax):Bool:=decide (0<s.length)&&decide (s.length≤30)&&low (s.getD 0 0)&&s.all eE
theorem px {s:ax}(h:isName s=true):0<s.length∧s.length≤30:=by
 simp only[isName,Bool.and_eq_true,decide_eq_true_eq]at h
 exact⟨h.1.1.1,h.1.1.2⟩
theorem ke {s:ax}(h:((s.length:Int)=0∨30<(s.length:Int))∨((s.getD 0 0).toNat:Int)<97∨122<((s.getD 0 0).toNat:Int)):isName s=false:=by
 simp only[isName,low,Bool.and_eq_false_iff,decide_eq_false_iff_not]
 left;omega
theorem oZ {s:ax}{k:Nat}(hk:k<s.length)(h:eE (s.getD k 0)=false):isName s=false:=by
 simp only[isName,tV hk h,Bool.and_false]
theorem oa {s:ax}(h0:0<s.length)(h1:s.length≤30)(h2:low (s.getD 0 0)=true)(h:s.all eE=true):isName s=true:=by
 simp only[isName,h2,h,Bool.and_true,Bool.and_eq_true,decide_eq_true_eq]
 exact⟨h0,h1⟩
abbrev uv (n:Nat):Value:= .int .u64 (n:Int)
section
variable {P:Program}{n:Nat}{F:Fr}{A:World→Prop}{ty:TypeId}{x y:Operand}{t u:TypeId}{a b:Nat}
theorem Lx {i:Int}:IntKind.u64.wrap i=i%18446744073709551616:=by
 simp only[IntKind.wrap,IntKind.bits,IntKind.signed];simp
theorem jo (m:Nat):IntKind.u64.wrap (m:Int)=((m%18446744073709551616:Nat):Int):=by rw[Lx];omega
theorem Ev.Je {k:IntKind}{j:Int}(c m:Nat)(hm:2^c=m)(hx:aL F x (uv a))(hy:aL F y (.int k j))(h:j=c∧c≤64):Ev P n F A (.binOp .shr t x y u) ty (uv (a/m)):=by
 subst hm;obtain⟨rfl,hc⟩:=h
 have:=Ev.shr (P:=P) (n:=n) (A:=A) (ty:=ty) (t:=t) (u:=u) hx hy (by omega)
 have e:(a:Int).fdiv (2^(min (c:Int).toNat IntKind.u64.bits))=((a/2^c:Nat):Int):=by
  have e1:min (c:Int).toNat IntKind.u64.bits=c:=by
   have:IntKind.u64.bits=64:=rfl
   rw[this,Int.toNat_natCast];omega
  rw[e1,Int.fdiv_eq_ediv_of_nonneg _ (Int.le_of_lt (Int.pow_pos (by omega)))]
  simp
 rw[e]at this;exact this
theorem Ev.Rx {k:IntKind}{j:Int}(c m:Nat)(hm:2^c=m)(hx:aL F x (uv a))(hy:aL F y (.int k j))(h:j=c∧c≤64):Ev P n F A (.binOp .shl t x y u) ty (uv (a*m%18446744073709551616)):=by
 subst hm;obtain⟨rfl,hc⟩:=h
 have:=Ev.Ra (P:=P) (n:=n) (A:=A) (ty:=ty) (t:=t) (u:=u) hx hy (by omega)
 have e:(a:Int)*2^(min (c:Int).toNat IntKind.u64.bits)=((a*2^c:Nat):Int):=by
  have e1:min (c:Int).toNat IntKind.u64.bits=c:=by
   have:IntKind.u64.bits=64:=rfl
   rw[this,Int.toNat_natCast];omega
  rw[e1];simp
 rw[e,jo]at this;exact this
theorem C5 (c:Nat)(h:a<18446744073709551616)(hc:c≤64):bits .and .u64 (a:Int) ((2^c-1:Nat):Int)=((a%2^c:Nat):Int):=by
 have hb:2^c-1<2^64:=by have:=Nat.pow_le_pow_right (n:=2) (by omega) hc;have:=Nat.pow_pos (n:=c) (a:=2) (by omega);omega
 have e:(BitVec.ofInt IntKind.u64.bits (a:Int)&&&BitVec.ofInt IntKind.u64.bits ((2^c-1:Nat):Int)).toNat=a%2^c:=by
  show(BitVec.ofInt 64 (a:Int)&&&BitVec.ofInt 64 ((2^c-1:Nat):Int)).toNat=_
  rw[BitVec.toNat_and,BitVec.ofInt_natCast,BitVec.ofInt_natCast,BitVec.toNat_ofNat,BitVec.toNat_ofNat,Nat.mod_eq_of_lt h,Nat.mod_eq_of_lt hb,Nat.and_two_pow_sub_one_eq_mod]
 simp only[bits,e]
 rw[jo,Nat.mod_eq_of_lt (Nat.lt_of_le_of_lt (Nat.mod_le a _) h)]
theorem Ev.Ly (c m:Nat)(hm:2^c=m)(hx:aL F x (uv a))(hy:aL F y (uv b))(h:a<18446744073709551616∧b=2^c-1∧c≤64):Ev P n F A (.binOp .and t x y u) ty (uv (a%m)):= .of_run fun a' w ha _=>by
 subst hm;obtain⟨h1,rfl,h3⟩:=h
 simp only[execOp,hx.eval ha,hy.eval ha];simp only[go_sem,C5 c h1 h3];simp
theorem Ev.Jf (m:Nat){i:Int}{s d:TypeId}(hx:aL F x (iv i))(hs:(P.underlying s).isSome=true)(hd:P.underlying d=some (.int .u64))(h:i=m∧m<18446744073709551616):Ev P n F A (.convert s d x) ty (uv m):=by
 obtain⟨rfl,h⟩:=h
 have:=Ev.I3 (P:=P) (n:=n) (A:=A) (ty:=ty) hx hs hd
 rwa[jo,Nat.mod_eq_of_lt h]at this
theorem Ev.Jg {k:IntKind}{s d:TypeId}(hx:aL F x (.int k (a:Int)))(hs:(P.underlying s).isSome=true)(hd:P.underlying d=some (.int .i64))(h:a<9223372036854775808):Ev P n F A (.convert s d x) ty (iv a):=by
 have:=Ev.I3 (P:=P) (n:=n) (A:=A) (ty:=ty) hx hs hd
 rwa[tF (by omega)]at this
end
section
variable {P:Program}{n:Nat}{F:Fr}{A:World→Prop}{ty:TypeId}{x y:Operand}{t:TypeId}
end
section
variable {P:Program}{n:Nat}{F:Fr}{A:World→Prop}{c:Ctx}{H R:List bE}{T:Act→World→Prop}{v v':Value}
theorem St.hS (b:Nat){e:TypeId}{L:List Value}(L':List Value)[tk:kL b H (.cells L.toArray e (0,0)) R](h:L=L')(hT:St n F (Mm c (aZ b (.cells L'.toArray e (0,0))::R)) T):St n F (Mm c H) T:=by
 subst h
 refine hT.pg fun w hw=> ?_
 obtain⟨ρ,hm⟩:=hw.out;exact Mm.mk (hm.perm tk.perm)
end
end Go.J
namespace Go.J
open Go Go.RowKit
section
variable {P:Program}{n:Nat}{F:Fr}{A:World→Prop}{c:Ctx}{H R:List bE}{ty t e:TypeId}{x y:Operand}{Q:Exit→Act→World→Prop}{ops:Array Oper}{rest:List Oper}{pos:String}{after:Array Edge}
end
def dJ.of (X:World→Prop):dJ:=⟨fun ρ=>∀w,(∀k o,ρ k=some o→w.heap[k]?=some o)→X w,fun _ _ h k w hw=>k w fun b o hb=>hw b o (h b o hb)⟩
theorem um.jq {P:Program}{f:FuncId}{args:Array Value}{X:World→Prop}{post:Value→List bE→Prop}(h:∀w,X w→Calls P f args w fun e w'=>∃v,e= .returned v∧post v []∧Below w.heap.size w w'):
 um P f args ([dJ.of X].map aE) post:=by
 intro w ρ hs
 have hx:X w:=cw.1 (hs.ct (aE (dJ.of X)) (List.mem_cons_self ..)) w hs.fits
 refine(h w hx).mono ?_;rintro e w' ⟨v,rfl,hp,hb⟩;refine⟨v,[],rfl,hp,Mm.mk (ρ:=ρ) ⟨hb.os,⟨hb.tape,fun h=>h.elim⟩,hb.output,hb.size,fun k hk _=>hb.block k hk,fun k o hk=> ?_,Ro.le_refl _,fun _ _ _=>rfl,fun _ h=>by simp at h,fun _ h=>by simp at h,.nil⟩⟩;rw[hb.block k (hs.I0 hk)];exact hs.fits k o hk
theorem fG.jq {P:Program}{f:FuncId}{args:Array Value}{X:World→Prop}{v:Value}(h:∀w,X w→Calls P f args w fun e w'=>e= .returned v∧Below w.heap.size w w'):fG P f args [dJ.of X] v:=
 um.jq fun w hw=>(h w hw).mono fun _ _ ⟨h1,h2⟩=>⟨v,h1,rfl,h2⟩
end Go.J
namespace Go.J
open Go Go.ChangeShapes Go.WideShapes Go.ChangeAt Go.RowKit Go.Deep
section
variable {H:Type}{enc:TypeId×Value→H}{P:Program}{W:World}
theorem Fq {t e:TypeId}{L:List ax}{IA:List Value}{p:List MemPlace}{fuel base:Nat}{sp:Nat→Bool}{held:Bool}(ht:P.underlying t=some (.slice e))(he:P.underlying e=some .string)(hc:P.cellsOf e=1)(er:L≠ [])(hL:∀s∈L,s.length≤140737488351232)
 (hf:DataW.trod enc P W base sp held fuel t IA=some (.slice (L.map fun s=> .lit (.string s)) [],p)):∃v:dQ,IA=[v.1]∧(sl dH v.1 L).f (J.all W):=by
 obtain⟨a,cap,jl,hl,Lz⟩:=open_row ht hc hf;rw[List.length_map]at jl hl
 have hm:cap≤maxLen:=by
  rcases DataW.trod_slice ht hf with⟨_,hx⟩|⟨a',len,tW,elems,rest,n,_,Jh,_,_,_,hm,_⟩
  ·simp at hx
  ·rw[jl]at Jh
   simp only[List.cons.injEq,Value.slice.injEq,and_true]at Jh
   rw[Jh.2.2];exact hm
 have each:∀i s,L[i]?=some s→W.cell? (a.add i)=some (sv s):=fun i s hs=>by
  obtain⟨v,n,q,h1,h2⟩:=Lz i (.lit (.string s)) (by rw[List.getElem?_map,hs];rfl);obtain⟨b,hb,hy,_⟩:=DataW.trod_string he h2
  cases hb
  have hy:=(Prod.mk.inj hy).1
  simp only[DataW.lit.injEq,Lit.string.injEq]at hy
  rw[h1,Bs,hy]
 have nh:0<L.length:=List.length_pos_iff.2 er
 obtain⟨b,off,spot⟩:=a
 obtain⟨s0,YN⟩:∃s,L[0]?=some s:=⟨_,List.getElem?_eq_getElem nh⟩
 obtain⟨vF,C,e',fr,hb,_⟩:=ei (each 0 s0 YN)
 have vF:spot=none:=by simpa[Addr.add]using vF
 subst vF
 have hb:W.heap[b]?=some (.cells C e' fr):=by simpa[Addr.add]using hb
 refine⟨⟨.slice (some ⟨b,off,none⟩) L.length cap,rfl⟩,jl,⟨_,cap,rfl,hl,hm,hL,.inr ⟨b,off,C,e',fr,rfl,hb,fun j u hj=> ?_⟩⟩⟩;obtain⟨i,k,x,h1,h2,h3,h4⟩:=tQ _ _ _ hj
 have hk:k=0:=by have:dH.size=1:=rfl;omega
 subst hk
 have hu:u=sv x:=by simpa[dH]using h4.symm
 have tS:j=i:=by have:dH.size=1:=rfl;rw[this]at h3;omega
 subst hu tS;obtain⟨_,C',Ry,Rz,jC,mn⟩:=ei (each j x h1)
 have jC:W.heap[b]?=some (.cells C' Ry Rz):=by
  by_cases h0:j=0
  ·subst h0;simpa[Addr.add]using jC
  ·simpa[Addr.add,h0]using jC
 have mn:C'[off+j]?=some (sv x):=by
  by_cases h0:j=0
  ·subst h0;simpa[Addr.add]using mn
  ·simpa[Addr.add,h0]using mn
 rw[hb]at jC
 simp only[Option.some.injEq,Obj.cells.injEq]at jC
 rw[jC.1];exact mn
theorem Fu {nm:String}{g T e:Nat}{L:List ax}(hg:P.globalNamed nm=some g)(hy:(P.globals[g]?).map (·.type)=some T)(ht:P.underlying T=some (.slice e))(he:P.underlying e=some .string)(hc:P.cellsOf e=1)(er:L≠ [])(hL:∀s∈L,s.length≤140737488351232)
 (h:Lib.VarReads P W nm (.slice (L.map fun s=> .lit (.string s)) [])):∃u:dQ,(rp g u.1).f (J.all W)∧(sl dH u.1 L).f (J.all W):=by
 obtain⟨g',t,cs,fuel,p,S1,FJ,vE,hd⟩:=h;obtain rfl:=Option.some.inj (hg.symm.trans S1);obtain rfl:=Option.some.inj (hy.symm.trans FJ);obtain⟨u,jl,hs⟩:=Fq ht he hc er hL hd;refine⟨u,?_,hs⟩
 have h0:=World.var?_cell hg vE 0
 rw[←Array.getElem?_toList,jl]at h0;obtain⟨_,C,e',fr,hb,hv⟩:=ei h0;exact⟨C,e',fr,hb,hv⟩
theorem C6 {nm:String}{g T e n:Nat}{L:List Nat}(hg:P.globalNamed nm=some g)(hy:(P.globals[g]?).map (·.type)=some T)(ht:P.underlying T=some (.array n e))(he:P.underlying e=some (.int .u8))(hc:P.cellsOf e=1)(YO:P.cellsOf T=n)
 (h:Lib.VarReads P W nm (Lib.tabData .u8 (L.map fun x:Nat=>(x:Int)))):∀w:World,(∀k o,J.all W k=some o→w.heap[k]?=some o)→∀j,j<L.length→w.cell? ⟨g,j,none⟩=some (.int .u8 (L.getD j 0)):=by
 obtain⟨g',t,cs,fuel,p,S1,FJ,vE,hd⟩:=h;obtain rfl:=Option.some.inj (hg.symm.trans S1);obtain rfl:=Option.some.inj (hy.symm.trans FJ)
 have jl:=Lib.cells_of_tab ht he hc YO hd
 intro w hw j hj
 have h0:=World.var?_cell hg vE j
 rw[←Array.getElem?_toList,jl]at h0
 have h0:W.cell? ⟨g,j,none⟩=some (.int .u8 (L.getD j 0)):=by
  rw[h0,List.getElem?_map,List.getElem?_map,List.getElem?_eq_getElem hj,List.getD_eq_getElem?_getD,List.getElem?_eq_getElem hj];rfl
 obtain⟨_,C,e',fr,hb,hv⟩:=ei h0
 rw[bp (hw _ _ hb)];exact hv
end
end Go.J
namespace Go.J
open Go Go.Lib
def pC:ax:=[32,9,10,40,41,91,93,44,59]
def eB (b:UInt8):Bool:=pC.contains b
theorem nk {b:UInt8}:eB b=true↔b.toNat=32∨b.toNat=9∨b.toNat=10∨b.toNat=40∨b.toNat=41∨b.toNat=91∨b.toNat=93∨b.toNat=44∨b.toNat=59:=by
 unfold eB pC
 simp only[List.contains_cons,List.contains_nil,Bool.or_false,Bool.or_eq_true,beq_iff_eq,←UInt8.toNat_inj]
 exact Iff.rfl
theorem xS {b:UInt8}(h:128≤b.toNat):eB b=false:=by
 cases hb:eB b with
 |false=>rfl
 |true=>have:=nk.1 hb;omega
def more (b:Nat):Nat:=if 194≤b∧b≤223 then 1 else if 224≤b∧b≤239 then 2 else if 240≤b∧b≤244 then 3 else 0
def s8 (b:Nat):Nat:=if b=224 then 160 else if b=240 then 144 else 128
def s9 (b:Nat):Nat:=if b=237 then 159 else if b=244 then 143 else 191
def bt (s:ax)(i:Nat):Nat:=(s.getD i 0).toNat
def dZ (b:Nat):Bool:=decide (128≤b∧more b=0)
def dW (s:ax)(p k:Nat):Bool:=decide (p+1+k<s.length∧(if k=0 then s8 (bt s p)else 128)≤bt s (p+1+k)∧bt s (p+1+k)≤(if k=0 then s9 (bt s p)else 191))
def rG (s:ax)(p:Nat):Option Nat:=
 if eB (s.getD p 0)then none else if dZ (bt s p)then none else if(List.range (more (bt s p))).all (dW s p)then some (more (bt s p)+1)else none
theorem kM (s:ax)(i:Nat):bt s i<256:=(s.getD i 0).toNat_lt
theorem nu (s:ax)(p:Nat):decodeL (s.drop p)=decodeN (s.length-p) (bt s p) (bt s (p+1)) (bt s (p+2)) (bt s (p+3)):=by
 rw[decodeL_N,List.length_drop,getD_dropU,getD_dropU,getD_dropU,getD_dropU,Nat.add_zero];rfl
def C2 (n b0 b1:Nat):Prop:=194≤b0∧b0≤223∧1<n∧128≤b1∧b1≤191
def C3 (n b0 b1 b2:Nat):Prop:=224≤b0∧b0≤239∧1<n∧128≤b1∧b1≤191∧(b0=224→160≤b1)∧(b0=237→b1≤159)∧2<n∧128≤b2∧b2≤191
def C4 (n b0 b1 b2 b3:Nat):Prop:=240≤b0∧b0≤244∧1<n∧128≤b1∧b1≤191∧(b0=240→144≤b1)∧(b0=244→b1≤143)∧2<n∧128≤b2∧b2≤191∧3<n∧128≤b3∧b3≤191
theorem nw {n b0 b1 b2 b3:Nat}(h0:b0<256)(h1:b1<256)(h2:b2<256)(h3:b3<256):
 (b0<128∧decodeN n b0 b1 b2 b3=(b0,1))∨(128≤b0∧¬C2 n b0 b1∧¬C3 n b0 b1 b2∧¬C4 n b0 b1 b2 b3∧decodeN n b0 b1 b2 b3=(65533,1))∨
 (C2 n b0 b1∧∃r,128≤r∧decodeN n b0 b1 b2 b3=(r,2))∨(C3 n b0 b1 b2∧∃r,128≤r∧decodeN n b0 b1 b2 b3=(r,3))∨(C4 n b0 b1 b2 b3∧∃r,128≤r∧decodeN n b0 b1 b2 b3=(r,4)):=by
 unfold C2 C3 C4 decodeN
 by_cases q0:b0<128
 ·rw[if_pos q0];exact .inl ⟨q0,rfl⟩
 ·rw[if_neg q0]
  right
  by_cases q1:b0/32=6∧(1<n∧b1/64=2)
  ·rw[if_pos q1]
   by_cases q2:b0%32*64+b1%64≥128
   ·rw[if_pos q2];exact .inr (.inl ⟨by omega,_,q2,rfl⟩)
   ·rw[if_neg q2];exact .inl ⟨by omega,by omega,by omega,by omega,rfl⟩
  ·rw[if_neg q1]
   by_cases q3:b0/16=14∧(1<n∧b1/64=2)∧(2<n∧b2/64=2)
   ·rw[if_pos q3]
    by_cases q4:b0%16*4096+b1%64*64+b2%64≥2048∧(b0%16*4096+b1%64*64+b2%64<55296∨(57344≤b0%16*4096+b1%64*64+b2%64∧b0%16*4096+b1%64*64+b2%64≤1114111))
    ·rw[if_pos q4];exact .inr (.inr (.inl ⟨by omega,_,by omega,rfl⟩))
    ·rw[if_neg q4];exact .inl ⟨by omega,by omega,by omega,by omega,rfl⟩
   ·rw[if_neg q3]
    by_cases q5:b0/8=30∧(1<n∧b1/64=2)∧(2<n∧b2/64=2)∧(3<n∧b3/64=2)
    ·rw[if_pos q5]
     by_cases q6:b0%8*262144+b1%64*4096+b2%64*64+b3%64≥65536∧(b0%8*262144+b1%64*4096+b2%64*64+b3%64<55296∨(57344≤b0%8*262144+b1%64*4096+b2%64*64+b3%64∧b0%8*262144+b1%64*4096+b2%64*64+b3%64≤1114111))
     ·rw[if_pos q6];exact .inr (.inr (.inr ⟨by omega,_,by omega,rfl⟩))
     ·rw[if_neg q6];exact .inl ⟨by omega,by omega,by omega,by omega,rfl⟩
    ·rw[if_neg q5];exact .inl ⟨by omega,by omega,by omega,by omega,rfl⟩
theorem eo (b:Nat):(b=224∧s8 b=160)∨(b=240∧s8 b=144)∨(b≠224∧b≠240∧s8 b=128):=by
 unfold s8;split
 ·exact .inl ⟨by assumption,rfl⟩
 ·split
  ·exact .inr (.inl ⟨by assumption,rfl⟩)
  ·exact .inr (.inr ⟨by assumption,by assumption,rfl⟩)
theorem ep (b:Nat):(b=237∧s9 b=159)∨(b=244∧s9 b=143)∨(b≠237∧b≠244∧s9 b=191):=by
 unfold s9;split
 ·exact .inl ⟨by assumption,rfl⟩
 ·split
  ·exact .inr (.inl ⟨by assumption,rfl⟩)
  ·exact .inr (.inr ⟨by assumption,by assumption,rfl⟩)
theorem e4 (b:Nat):(more b=1∧194≤b∧b≤223)∨(more b=2∧224≤b∧b≤239)∨(more b=3∧240≤b∧b≤244)∨(more b=0∧(b<194∨244<b)):=by
 unfold more
 split
 ·exact .inl ⟨rfl,by assumption⟩
 ·split
  ·exact .inr (.inl ⟨rfl,by assumption⟩)
  ·split
   ·exact .inr (.inr (.inl ⟨rfl,by assumption⟩))
   ·exact .inr (.inr (.inr ⟨rfl,by omega⟩))
theorem sB {s:ax}{p:Nat}:dW s p 0=true↔p+1<s.length∧s8 (bt s p)≤bt s (p+1)∧bt s (p+1)≤s9 (bt s p):=by
 unfold dW;rw[if_pos rfl,if_pos rfl,decide_eq_true_eq]
theorem zG {s:ax}{p:Nat}:dW s p 1=true↔p+2<s.length∧128≤bt s (p+2)∧bt s (p+2)≤191:=by
 unfold dW;rw[if_neg (by decide),if_neg (by decide),decide_eq_true_eq]
theorem IB {s:ax}{p:Nat}:dW s p 2=true↔p+3<s.length∧128≤bt s (p+3)∧bt s (p+3)≤191:=by
 unfold dW;rw[if_neg (by decide),if_neg (by decide),decide_eq_true_eq]
theorem k6 {s:ax}{p m:Nat}(hs:eB (s.getD p 0)=false)(hm:more (bt s p)=m)(hb:¬(128≤bt s p∧m=0)):rG s p=if(List.range m).all (dW s p)then some (m+1)else none:=by
 unfold rG
 have h1:dZ (bt s p)=false:=by unfold dZ;rw[hm];exact decide_eq_false hb
 rw[hs,h1,hm];rfl
theorem Fv {s:ax}{p:Nat}(hp:p<s.length)(hs:eB (s.getD p 0)=false):
 rG s p=if(decodeL (s.drop p)).1=65533∧(decodeL (s.drop p)).2=1 then none else some (decodeL (s.drop p)).2:=by
 rw[nu]
 have zH:=eo (bt s p)
 have Lq:=ep (bt s p)
 have YP:=e4 (bt s p)
 have r1:(List.range 1).all (dW s p)=dW s p 0:=by simp[List.range_succ]
 have r2:(List.range 2).all (dW s p)=(dW s p 0&&dW s p 1):=by simp[List.range_succ]
 have r3:(List.range 3).all (dW s p)=(dW s p 0&&dW s p 1&&dW s p 2):=by simp[List.range_succ,Bool.and_assoc]
 rcases nw (n:=s.length-p) (kM s p) (kM s (p+1)) (kM s (p+2)) (kM s (p+3))with⟨h1,h2⟩|⟨h1,n2,n3,n4,h2⟩|⟨h1,r,hr,h2⟩|⟨h1,r,hr,h2⟩|⟨h1,r,hr,h2⟩<;>rw[h2]
 ·rw[if_neg (by simp only;omega),k6 hs (m:=0) (by omega) (by omega)];rfl
 ·rw[if_pos (by simp)]
  unfold C2 at n2;unfold C3 at n3;unfold C4 at n4
  rcases YP with⟨hm,hq⟩|⟨hm,hq⟩|⟨hm,hq⟩|⟨hm,hq⟩
  ·rw[k6 hs hm (by omega),r1,if_neg (by rw[sB];omega)]
  ·rw[k6 hs hm (by omega),r2,if_neg (by rw[Bool.and_eq_true,sB,zG];omega)]
  ·rw[k6 hs hm (by omega),r3,if_neg (by rw[Bool.and_eq_true,Bool.and_eq_true,sB,zG,IB];omega)]
  ·unfold rG
   rw[hs,show dZ (bt s p)=true by unfold dZ;exact decide_eq_true ⟨h1,hm⟩];rfl
 ·unfold C2 at h1
  rw[if_neg (by simp),k6 hs (m:=1) (by omega) (by omega),r1,if_pos (by rw[sB];omega)]
 ·unfold C3 at h1
  rw[if_neg (by simp),k6 hs (m:=2) (by omega) (by omega),r2,if_pos (by rw[Bool.and_eq_true,sB,zG];omega)]
 ·unfold C4 at h1
  rw[if_neg (by simp),k6 hs (m:=3) (by omega) (by omega),r3,if_pos (by rw[Bool.and_eq_true,Bool.and_eq_true,sB,zG,IB];omega)]
theorem lU {s:ax}{p:Nat}(hp:p<s.length):1≤(decodeL (s.drop p)).2∧p+(decodeL (s.drop p)).2≤s.length∧
 ((bt s p<128∧decodeL (s.drop p)=(bt s p,1))∨(128≤(decodeL (s.drop p)).1∧∀j,j<(decodeL (s.drop p)).2→128≤bt s (p+j))):=by
 rw[nu]
 have e0:bt s (p+0)=bt s p:=rfl
 have h4:∀w,(w=1∨(w=2∧128≤bt s (p+1))∨(w=3∧128≤bt s (p+1)∧128≤bt s (p+2))∨(w=4∧128≤bt s (p+1)∧128≤bt s (p+2)∧128≤bt s (p+3)))→128≤bt s p→∀j,j<w→128≤bt s (p+j):=by
  intro w h h0 j hj
  have:j=0∨j=1∨j=2∨j=3:=by omega
  rcases this with rfl|rfl|rfl|rfl
  ·exact h0
  ·omega
  ·omega
  ·omega
 rcases nw (n:=s.length-p) (kM s p) (kM s (p+1)) (kM s (p+2)) (kM s (p+3))with⟨h1,h2⟩|⟨h1,n2,n3,n4,h2⟩|⟨h1,r,hr,h2⟩|⟨h1,r,hr,h2⟩|⟨h1,r,hr,h2⟩<;>rw[h2]
 ·exact⟨Nat.le_refl _,(show p+1≤s.length by omega),.inl ⟨h1,rfl⟩⟩
 ·exact⟨Nat.le_refl _,(show p+1≤s.length by omega),.inr ⟨(show 128≤65533 by decide),h4 1 (.inl rfl) h1⟩⟩
 ·unfold C2 at h1
  exact⟨(show 1≤2 by decide),(show p+2≤s.length by omega),.inr ⟨hr,h4 2 (by omega) (by omega)⟩⟩
 ·unfold C3 at h1
  exact⟨(show 1≤3 by decide),(show p+3≤s.length by omega),.inr ⟨hr,h4 3 (by omega) (by omega)⟩⟩
 ·unfold C4 at h1
  exact⟨(show 1≤4 by decide),(show p+4≤s.length by omega),.inr ⟨hr,h4 4 (by omega) (by omega)⟩⟩
theorem xT {s:ax}{p:Nat}(hp:p<s.length)(hs:eB (s.getD p 0)=false):(s.drop p).any eB=(s.drop (p+(decodeL (s.drop p)).2)).any eB:=by
 obtain⟨h1,h2,h3⟩:=lU hp
 have h3:(decodeL (s.drop p)).2=1∨∀j,j<(decodeL (s.drop p)).2→128≤bt s (p+j):=h3.imp (fun q=>by rw[q.2]) (fun q=>q.2)
 generalize (decodeL (s.drop p)).2=w at*
 have e:s.drop p=(s.drop p).take w++s.drop (p+w):=by rw[←List.drop_drop,List.take_append_drop]
 rw[e,List.any_append]
 have:((s.drop p).take w).any eB=false:=by
  rw[List.any_eq_false];intro x hx;obtain⟨j,hj,rfl⟩:=List.mem_iff_getElem.1 hx;rw[List.length_take,List.length_drop]at hj;rw[List.getElem_take,List.getElem_drop]
  have IC:s[p+j]'(by omega)=s.getD (p+j) 0:=by rw[List.getD_eq_getElem?_getD,List.getElem?_eq_getElem (by omega)];rfl
  rw[IC]
  rcases h3 with q|q
  ·obtain rfl:j=0:=by omega
   rw[Nat.add_zero,hs];decide
  ·rw[xS (q j (by omega))];decide
 rw[this,Bool.false_or]
def kf (s:ax):Nat→Nat→Option Nat
 |0,_=>some 0
 |f+1,p=>if p<s.length then match rG s p with
  |none=>none
  |some w=>(kf s f (p+w)).map (· +1)
  else some 0
theorem zI (s:ax):∀(f p:Nat),s.length-p≤f→kf s f p=if validGoD f (s.drop p)&& !(s.drop p).any eB then some (runeCountFrom ⟨s.toArray⟩ f p)else none
 |0,p,h=>by
  rw[List.drop_of_length_le (by omega)]
  simp[kf,validGoD,runeCountFrom]
 |f+1,p,h=>by
  by_cases hp:p<s.length
  ·have hd:s.drop p≠ []:=by intro e;have:=congrArg List.length e;rw[List.length_drop,List.length_nil]at this;omega
   have hx:s[p]?=some (s.getD p 0):=AA 0 hp
   rw[kf,if_pos hp]
   cases hs:eB (s.getD p 0)with
   |true=>
    have h1:rG s p=none:=by unfold rG;rw[hs];rfl
    have h2:(s.drop p).any eB=true:=by rw[bS hx,List.any_cons,hs];rfl
    rw[h1,h2];simp
   |false=>
    rw[Fv hp hs,validGoD,if_neg hd];obtain⟨w1,w2,w3⟩:=lU hp
    by_cases hb:(decodeL (s.drop p)).1=65533∧(decodeL (s.drop p)).2=1
    ·rw[if_pos hb,if_pos hb];rfl
    ·rw[if_neg hb,if_neg hb,xT hp hs,List.drop_drop]
     have ih:=zI s f (p+(decodeL (s.drop p)).2) (by omega)
     show Option.map _ _=_
     rw[ih,runeCountFrom]
     have fx:p<(⟨s.toArray⟩:ByteArray).size:=by show p<s.toArray.size;simpa using hp
     rw[if_pos fx]
     have vG:=decodeL_drop ⟨s.toArray⟩ p
     simp only at vG
     rw[←vG]
     split
     ·simp[Nat.add_comm]
     ·rfl
  ·rw[kf,if_neg hp,List.drop_of_length_le (by omega)]
   have fx:¬p<(⟨s.toArray⟩:ByteArray).size:=by show ¬p<s.toArray.size;simpa using hp
   simp[validGoD,runeCountFrom,fx]
def sC:Option Nat→Bool
 |some n=>decide (1≤n∧n≤30)
 |none=>false
def isWord (s:ax):Bool:=sC (kf s s.length 0)
theorem ny (s:ax):isWord s=(decide (1≤runeCountL s)&&decide (runeCountL s≤30)&&validD s&& !s.any eB):=by
 unfold isWord;rw[zI s s.length 0 (by omega),List.drop_zero]
 have:runeCountFrom ⟨s.toArray⟩ s.length 0=runeCountL s:=by unfold runeCountL runeCount;congr 1
 rw[this];unfold validD
 cases validGoD s.length s<;>cases s.any eB<;>simp[sC]
theorem AL (s:ax):∀(f f' p:Nat),s.length-p≤f→s.length-p≤f'→kf s f p=kf s f' p:=by
 intro f
 induction f with
 |zero=>
  intro f' p h h'
  cases f' with
  |zero=>rfl
  |succ f'=>rw[kf,kf,if_neg (by omega)]
 |succ f ih=>
  intro f' p h h'
  cases f' with
  |zero=>rw[kf,kf,if_neg (by omega)]
  |succ f'=>
   rw[kf,kf]
   by_cases hp:p<s.length
   ·rw[if_pos hp,if_pos hp]
    cases hw:rG s p with
    |none=>rfl
    |some w=>
     have:1≤w:=by
      unfold rG at hw
      split at hw
      ·cases hw
      ·split at hw
       ·cases hw
       ·split at hw
        ·simp only[Option.some.injEq]at hw;omega
        ·cases hw
     show Option.map _ _=Option.map _ _
     rw[ih f' (p+w) (by omega) (by omega)]
   ·rw[if_neg hp,if_neg hp]
def wc (s:ax)(p:Nat):Option Nat:=kf s (s.length-p) p
theorem Ji {s:ax}{p:Nat}(h:s.length≤p):wc s p=some 0:=by
 unfold wc;rw[show s.length-p=0 by omega];rfl
theorem Fw {s:ax}{p:Nat}(h:p<s.length)(hw:rG s p=none):wc s p=none:=by
 unfold wc
 obtain⟨f,hf⟩:∃f,s.length-p=f+1:=⟨s.length-p-1,by omega⟩
 rw[hf,kf,if_pos h,hw]
theorem Fx {s:ax}{p w:Nat}(h:p<s.length)(hw:rG s p=some (w+1)):wc s p=(wc s (p+(w+1))).map (· +1):=by
 unfold wc
 obtain⟨f,hf⟩:∃f,s.length-p=f+1:=⟨s.length-p-1,by omega⟩
 rw[hf,kf,if_pos h,hw]
 show Option.map _ _=Option.map _ _
 rw[AL s f (s.length-(p+(w+1))) (p+(w+1)) (by omega) (Nat.le_refl _)]
theorem AM (s:ax):isWord s=sC (wc s 0):=rfl
def ij (s:ax)(n p:Nat):Bool:=sC ((wc s p).map (· +n))
theorem vH (s:ax):isWord s=ij s 0 0:=by
 unfold ij;rw[AM];cases wc s 0<;>rfl
theorem kg {s:ax}{n p:Nat}(h:p<s.length)(hw:rG s p=none):ij s n p=false:=by
 unfold ij;rw[Fw h hw];rfl
theorem vI {s:ax}{n p w:Nat}(h:p<s.length)(hw:rG s p=some (w+1)):ij s n p=ij s (n+1) (p+(w+1)):=by
 unfold ij;rw[Fx h hw]
 cases wc s (p+(w+1))with
 |none=>rfl
 |some k=>simp[sC,Nat.add_comm,Nat.add_left_comm]
theorem xU {s:ax}{n p:Nat}(h:s.length≤p):ij s n p=decide (1≤n∧n≤30):=by
 unfold ij;rw[Ji h];simp[sC]
theorem Fy {s:ax}{p:Nat}(h:eB (s.getD p 0)=true):rG s p=none:=by unfold rG;rw[h];rfl
theorem Fz {s:ax}{p:Nat}(h:dZ (bt s p)=true):rG s p=none:=by unfold rG;rw[h];split<;>rfl
theorem C7 {s:ax}{p k:Nat}(hk:k<more (bt s p))(h:dW s p k=false):rG s p=none:=by
 unfold rG
 split
 ·rfl
 ·split
  ·rfl
  ·rw[if_neg]
   intro ej
   have:=List.all_eq_true.1 ej k (List.mem_range.2 hk)
   rw[h]at this;cases this
theorem Jj {s:ax}{p:Nat}(h1:eB (s.getD p 0)=false)(h2:dZ (bt s p)=false)(h:(List.range (more (bt s p))).all (dW s p)=true):rG s p=some (more (bt s p)+1):=by
 unfold rG;rw[h1,h2,h];rfl
end Go.J
